/- The walk of the law on nonces. -/
import Derived.Test.YtgbmbnofnhhblaaDoorNonK
import Derived.Test.YtgbmbnofnhhblaaDoorLawProt
import Derived.Test.YtgbmbnofnhhblaaDoorKept
namespace Go.Proofs.YtgbmbnofnhhblaaDoor.Seal
open Go.RowKit
open Go.Proofs.YtgbmbnofnhhblaaDoor.Num Go.Proofs.YtgbmbnofnhhblaaDoor.Mem Go.Proofs.YtgbmbnofnhhblaaDoor.Hsh Go.Proofs.YtgbmbnofnhhblaaDoor.Itoa Go.Proofs.YtgbmbnofnhhblaaDoor.Pass Go.Proofs.YtgbmbnofnhhblaaDoor.Sls Go.Proofs.YtgbmbnofnhhblaaDoor.Own Go.Proofs.YtgbmbnofnhhblaaDoor.Ks Go.Proofs.YtgbmbnofnhhblaaDoor.SS
set_option linter.unusedSimpArgs false
set_option linter.unusedVariables false
/-- what the rounds keep -/
def NonRel (w : World) (gk lo : Nat) (v4 v5 v6 : Value) (wr : World) : Prop :=
  ∃ (i : Nat) (ke se : Int) (zs ks cs : List Int) (A : Option Addr) (c : Nat) (A1 : Option Addr) (c1 : Nat) (A2 : Option Addr) (c2 : Nat),
    i ≤ 30 ∧ v6 = .int .i64 (i : Int) ∧ v4 = .slice A1 ks.length c1 ∧ v5 = .slice A2 cs.length c2 ∧ NInv i ke se zs ks cs ∧
    wr.ownsRow lo 3 1 (.slice A1 ks.length c1) ks.length (ks.map (Value.int .i64)) ∧ wr.ownsRow lo 3 1 (.slice A2 cs.length c2) cs.length (cs.map (Value.int .i64)) ∧
    wr.ownsRow lo 3 1 (.slice A zs.length c) zs.length (zs.map (Value.int .i64)) ∧ Apart A1 A2 ∧ Apart A1 A ∧ Apart A2 A ∧
    Bk.Blk wr gk 27 #[.int .i64 ke, .int .i64 se, .int .i64 0, .slice A zs.length c] ∧ lo ≤ wr.heap.size ∧ Below w.heap.size w wr
set_option maxRecDepth 100000 in
set_option maxHeartbeats 16000000 in
theorem non_law (A : Option Addr) (n c : Nat) (zs : List Int) (w : World) (ht : Tab w) (hrow : RowIn .u8 w A n c zs) :
    Calls Tryd.prog 5 #[.slice A n c] w fun e w' => e = .returned (.bool true) ∧ Below w.heap.size w w' := by
  obtain ⟨i0, hi, hz0, hz1, hz2⟩ := info_parts intInfo
  have HR := Lib.hid hrow.1
  have HB := Lib.hid (bytes_of_row hrow)
  have HT := Lib.hid ht
  have B : Below w.heap.size w w := Below.refl _ _
  clear hrow ht
  by_cases hbig : 1048576 < (n : Int)
  · go_enter Tryd.func5, Tryd.ntmps5
    go_wp2_with (first | (go_at_call 19; refine (big_any _ _ _ _).mono ?_; rintro e w' ⟨rfl, rfl⟩))
    go_ret
    exact ⟨rfl, B⟩
  · go_enter Tryd.func5, Tryd.ntmps5
    go_wp2_with (first | (go_at_call 19; refine (big_any _ _ _ _).mono ?_; rintro e w' ⟨rfl, rfl⟩))
    have o1 : ((w.alloc (.cells #[.int .i64 0, .int .i64 0, .int .i64 0, .slice none 0 0] 27)).alloc (.cells #[] 3)).ownsRow (w.heap.size + 1) 3 1 (.slice (some ⟨w.heap.size + 1, 0, none⟩) 0 0) 0 [] := own_empty _ _ _ _ _ (by simp) (by omega)
    have o2 := own_empty ((w.alloc (.cells #[.int .i64 0, .int .i64 0, .int .i64 0, .slice none 0 0] 27)).alloc (.cells #[] 3)) (w.heap.size + 1) (w.heap.size + 1 + 1) 3 1 (by simp) (by omega)
    have ap : Apart (some ⟨w.heap.size + 1, 0, none⟩) (some ⟨w.heap.size + 1 + 1, 0, none⟩) := by intro g h1 h2; simp [blk] at h1 h2; omega
    generalize hW : World.alloc _ _ = w3
    replace o1 := own_toE o1 hW
    replace o2 := hW ▸ o2
    have bk : Bk.Blk w3 (w.heap.size) 27 #[.int .i64 0, .int .i64 0, .int .i64 0, .slice none 0 0] := (by rw [← hW]; apply Bk.Blk.to; (focus ((repeat (first | with_reducible assumption | (with_reducible apply Bk.Blk.newAt; focus (first | (simp [Bk.size_set]; done) | (simp [Bk.size_set]; omega))) | with_reducible apply Bk.Blk.drewN | with_reducible apply Bk.Blk.drew | with_reducible apply Bk.Blk.set_ | (with_reducible apply Bk.Blk.far; focus (dsimp only; first | omega | (simp; omega) | (simp; done))) | with_reducible apply Bk.Blk.alloc)))); rfl)
    replace B : Below w.heap.size w w3 := (by rw [← hW]; go_grown)
    have z3 : w3.heap.size = _ := congrArg (fun W : World => W.heap.size) hW.symm
    (try simp only [World.size_alloc, Bk.size_set, World.size_drew, World.drewN] at z3)
    clear hW
    go_loopw [4, 5, 6] (fun v4 v5 v6 wr => NonRel w w.heap.size (w.heap.size + 1) v4 v5 v6 wr) (fun _ _ v6 _ => 30 - (intOf v6).toNat)
    case atStart => exact ⟨0, 0, 0, [], [], [], none, 0, _, _, _, _, by omega, rfl, rfl, rfl, ninv_start, o1, o2, own_nilK _ _ _ _, ap, (apart_none _).symm, (apart_none _).symm, bk, by omega, B⟩
    case round =>
      obtain ⟨w10, rfl⟩ : ∃ wo : World, wo = wr := ⟨_, rfl⟩
      clear o1 o2 ap bk B z3
      obtain ⟨i, ke, se, zk, ks, cs, A0, c0, A1, c1, A2, c2, hi30, rfl, rfl, rfl, hinv, h1, h2, h3, p12, p1, p2, bk, hlo, B⟩ := hrel
      have HN := Lib.hid hinv
      have H1 := Lib.hid h1
      have H2 := Lib.hid h2
      have H3 := Lib.hid h3
      have P12 := Lib.hid p12
      have P1 := Lib.hid p1
      have P2 := Lib.hid p2
      clear hinv h1 h2 h3 p12 p1 p2
      by_cases hlt : i < 30
      · go_wp2_with fail
        refine (at_any A n c zs _ _ (HR.out.below B) HB.out (by omega) (by omega) (by omega)).mono ?_
        rintro e w' ⟨x, ⟨x0, x1⟩, rfl, rfl⟩
        have hm0 := Int.emod_nonneg x (show (4 : Int) ≠ 0 by omega)
        by_cases h0 : x % 4 = 0
        · have e0 : (x % 4 == 0) = true := by simpa using h0
          clear h0 hm0
          have w30 : IntKind.i64.wrap ((i : Int) + 30) = (i : Int) + 30 := IntWalk.i64_in _ ⟨by omega, by omega⟩
          go_upto_region 10 with fail
          go_cut [7, 8] (fun v7 v8 wx => ∃ (key : Int) (gx : Nat) (ke' se' : Int) (zk' : List Int) (ok : Bool) (A' : Option Addr) (c' : Nat), v7 = .pointer (some ⟨gx, 0, none⟩) ∧ v8 = .bool ok ∧ (InstR ke se key zk ks ke' se' zk' ok ∧ NInv (i + 1) ke' se' zk' ks cs) ∧ w10.heap.size ≤ gx ∧ Bk.Blk wx gx 27 #[.int .i64 ke', .int .i64 se', .int .i64 0, .slice A' zk'.length c'] ∧ wx.ownsRow w10.heap.size 3 1 (.slice A' zk'.length c') zk'.length (zk'.map (Value.int .i64)) ∧ Bk.Blk wx w.heap.size 27 #[.int .i64 ke, .int .i64 se, .int .i64 0, .slice A0 zk.length c0] ∧ Below w.heap.size w wx ∧ Below w10.heap.size w10 wx)
          case first =>
            have O3 := H3.out
            have B10 : Below w10.heap.size w10 w10 := Below.refl _ _
            have L_bk := Lay.f4 bk
            refine wp_region_held_drew (S := (fun w' => Bk.Blk w' (w.heap.size) 27 #[.int .i64 ke, .int .i64 se, .int .i64 0, .slice A0 zk.length c0])) (by kernel_rfl) ?_ (fun hHeld => ?_)
            · (try dsimp only); (repeat (first | with_reducible assumption | (with_reducible apply Bk.Blk.newAt; focus (first | (simp [Bk.size_set]; done) | (simp [Bk.size_set]; omega))) | with_reducible apply Bk.Blk.drewN | with_reducible apply Bk.Blk.drew | with_reducible apply Bk.Blk.set_ | (with_reducible apply Bk.Blk.far; focus (dsimp only; first | omega | (simp; omega) | (simp; done))) | with_reducible apply Bk.Blk.alloc))
            first | (refine wpAnyH_take (i := 0) (v := ?_) (Reg.get rfl) (by kernel_rfl) (by kernel_rfl) (by kernel_rfl) (fun _ _ _ h => h) (Or.inl ⟨by rfl, ?_⟩) hHeld ?_; rotate_left 1; (focus (intro wq hSw; (try dsimp only at hSw); have s_bk := hSw; have L_bk := Lay.c4 s_bk;  go_simp <;> with_reducible rfl))) | (refine wpAnyH_take (i := 0) (v := undef) (Reg.get rfl) (by kernel_rfl) (by kernel_rfl) (by kernel_rfl) (fun _ _ _ h => h) (Or.inr ⟨by rfl, rfl⟩) hHeld ?_)
            try simp only [Act.put, List.setIfInBounds_toArray, List.set_cons_zero, List.set_cons_succ]
            first | (refine wpAnyH_take (i := 1) (v := ?_) (Reg.get rfl) (by kernel_rfl) (by kernel_rfl) (by kernel_rfl) (fun _ _ _ h => h) (Or.inl ⟨by rfl, ?_⟩) hHeld ?_; rotate_left 1; (focus (intro wq hSw; (try dsimp only at hSw); have s_bk := hSw; have L_bk := Lay.c4 s_bk;  go_simp <;> with_reducible rfl))) | (refine wpAnyH_take (i := 1) (v := undef) (Reg.get rfl) (by kernel_rfl) (by kernel_rfl) (by kernel_rfl) (fun _ _ _ h => h) (Or.inr ⟨by rfl, rfl⟩) hHeld ?_)
            try simp only [Act.put, List.setIfInBounds_toArray, List.set_cons_zero, List.set_cons_succ]
            first | (refine wpAnyH_take (i := 2) (v := ?_) (Reg.get rfl) (by kernel_rfl) (by kernel_rfl) (by kernel_rfl) (fun _ _ _ h => h) (Or.inl ⟨by rfl, ?_⟩) hHeld ?_; rotate_left 1; (focus (intro wq hSw; (try dsimp only at hSw); have s_bk := hSw; have L_bk := Lay.c4 s_bk;  go_simp <;> with_reducible rfl))) | (refine wpAnyH_take (i := 2) (v := undef) (Reg.get rfl) (by kernel_rfl) (by kernel_rfl) (by kernel_rfl) (fun _ _ _ h => h) (Or.inr ⟨by rfl, rfl⟩) hHeld ?_)
            try simp only [Act.put, List.setIfInBounds_toArray, List.set_cons_zero, List.set_cons_succ]
            first | (refine wpAnyH_take (i := 3) (v := ?_) (Reg.get rfl) (by kernel_rfl) (by kernel_rfl) (by kernel_rfl) (fun _ _ _ h => h) (Or.inl ⟨by rfl, ?_⟩) hHeld ?_; rotate_left 1; (focus (intro wq hSw; (try dsimp only at hSw); have s_bk := hSw; have L_bk := Lay.c4 s_bk;  go_simp <;> with_reducible rfl))) | (refine wpAnyH_take (i := 3) (v := undef) (Reg.get rfl) (by kernel_rfl) (by kernel_rfl) (by kernel_rfl) (fun _ _ _ h => h) (Or.inr ⟨by rfl, rfl⟩) hHeld ?_)
            try simp only [Act.put, List.setIfInBounds_toArray, List.set_cons_zero, List.set_cons_succ]
            refine wpAnyH_ready (rs := [4, 11]) (by kernel_rfl) (by simp) ?_
            refine (AllReadyH.cons (Reg.get rfl) (fun K hK => ?_) (AllReadyH.cons (Reg.get rfl) (fun K hK => ?_) AllReadyH.nil))
            
            · skip
              clear hHeld; go_simp; ((go_at_call 28; refine (at_any A n c zs _ _ (by first | exact HR.out.below B | exact (HR.out.below B).drew) HB.out (by omega) (by omega) (by omega)).mono ?_; rintro x2 w' ⟨y, ⟨y0, y1⟩, rfl, rfl⟩; have m0 := tm5 y0; have w50 : IntKind.i64.wrap (50 + y.tmod 5) = 50 + y.tmod 5 := IntWalk.i64_in _ ⟨by omega, by omega⟩)); refine hK.out _ _ ?_ (fun hHeld => ?_); ((try dsimp only); (repeat (first | with_reducible assumption | (with_reducible apply Bk.Blk.newAt; focus (first | (simp [Bk.size_set]; done) | (simp [Bk.size_set]; omega))) | with_reducible apply Bk.Blk.drewN | with_reducible apply Bk.Blk.drew | with_reducible apply Bk.Blk.set_ | (with_reducible apply Bk.Blk.far; focus (dsimp only; first | omega | (simp; omega) | (simp; done))) | with_reducible apply Bk.Blk.alloc))); clear hK K
              try simp only [Act.put, List.setIfInBounds_toArray, List.set_cons_zero, List.set_cons_succ]
              first | (refine wpAnyH_take (i := 5) (v := ?_) (Reg.get rfl) (by kernel_rfl) (by kernel_rfl) (by kernel_rfl) (fun _ _ _ h => h) (Or.inl ⟨by rfl, ?_⟩) hHeld ?_; rotate_left 1; (focus (intro wq hSw; (try dsimp only at hSw); have s_bk := hSw; have L_bk := Lay.c4 s_bk;  go_simp <;> with_reducible rfl))) | (refine wpAnyH_take (i := 5) (v := undef) (Reg.get rfl) (by kernel_rfl) (by kernel_rfl) (by kernel_rfl) (fun _ _ _ h => h) (Or.inr ⟨by rfl, rfl⟩) hHeld ?_)
              try simp only [Act.put, List.setIfInBounds_toArray, List.set_cons_zero, List.set_cons_succ]
              first | (refine wpAnyH_take (i := 6) (v := ?_) (Reg.get rfl) (by kernel_rfl) (by kernel_rfl) (by kernel_rfl) (fun _ _ _ h => h) (Or.inl ⟨by rfl, ?_⟩) hHeld ?_; rotate_left 1; (focus (intro wq hSw; (try dsimp only at hSw); have s_bk := hSw; have L_bk := Lay.c4 s_bk;  go_simp <;> with_reducible rfl))) | (refine wpAnyH_take (i := 6) (v := undef) (Reg.get rfl) (by kernel_rfl) (by kernel_rfl) (by kernel_rfl) (fun _ _ _ h => h) (Or.inr ⟨by rfl, rfl⟩) hHeld ?_)
              try simp only [Act.put, List.setIfInBounds_toArray, List.set_cons_zero, List.set_cons_succ]
              refine wpAnyH_ready (rs := [7, 11]) (by kernel_rfl) (by simp) ?_
              refine (AllReadyH.cons (Reg.get rfl) (fun K hK => ?_) (AllReadyH.cons (Reg.get rfl) (fun K hK => ?_) AllReadyH.nil))
            
              · skip
                clear hHeld; go_simp; ((go_at_call 29; (try rw [w50]); refine (inst_inv HN.out (by omega) (50 + y.tmod 5) (by omega) A0 c0 _ (by first | exact Rd.of_own O3 | exact Rd.of_own (own_drewE O3))).mono ?_; rintro x3 w11 ⟨ke', se', zk', ok, A', c', hIN, rfl, ho, hb0⟩; have HD := own_monoK ho (show w10.heap.size ≤ _ from (by first | omega | (simp; done) | (simp; omega))); clear ho; (try clear L_bp); (try (first | replace PBB := blk_underK PBB hb0 | replace PBB := blk_underK (blk_drewK PBB) hb0)); (first | replace B10 := stepN B10 hb0 (by first | omega | (simp; done) | (simp; omega)) | replace B10 := stepN B10.drew hb0 (by first | omega | (simp; done) | (simp; omega))); clear L_bk; replace bk : Bk.Blk w11 (w.heap.size) 27 #[.int .i64 ke, .int .i64 se, .int .i64 0, .slice A0 zk.length c0] := Bk.Blk.under hb0 (by (repeat (first | with_reducible assumption | (with_reducible apply Bk.Blk.newAt; focus (first | (simp [Bk.size_set]; done) | (simp [Bk.size_set]; omega))) | with_reducible apply Bk.Blk.drewN | with_reducible apply Bk.Blk.drew | with_reducible apply Bk.Blk.set_ | (with_reducible apply Bk.Blk.far; focus (dsimp only; first | omega | (simp; omega) | (simp; done))) | with_reducible apply Bk.Blk.alloc))); replace B : Below w.heap.size w w11 := Below.trans (by go_grown) (hb0.mono (by first | omega | (simp [Bk.size_set]; done) | (simp [Bk.size_set]; omega))); have z11 := hb0.size; (try simp only [World.size_alloc, Bk.size_set, World.size_drew, World.drewN] at z11); clear hb0; have L_bk := Lay.f4 bk; (try have L_bp := Lay.f4 PBB))); refine hK.out _ _ ?_ (fun hHeld => ?_); ((try dsimp only); (repeat (first | with_reducible assumption | (with_reducible apply Bk.Blk.newAt; focus (first | (simp [Bk.size_set]; done) | (simp [Bk.size_set]; omega))) | with_reducible apply Bk.Blk.drewN | with_reducible apply Bk.Blk.drew | with_reducible apply Bk.Blk.set_ | (with_reducible apply Bk.Blk.far; focus (dsimp only; first | omega | (simp; omega) | (simp; done))) | with_reducible apply Bk.Blk.alloc))); clear hK K
                try simp only [Act.put, List.setIfInBounds_toArray, List.set_cons_zero, List.set_cons_succ]
                first | (refine wpAnyH_take (i := 8) (v := ?_) (Reg.get rfl) (by kernel_rfl) (by kernel_rfl) (by kernel_rfl) (fun _ _ _ h => h) (Or.inl ⟨by rfl, ?_⟩) hHeld ?_; rotate_left 1; (focus (intro wq hSw; (try dsimp only at hSw); have s_bk := hSw; have L_bk := Lay.c4 s_bk;  go_simp <;> with_reducible rfl))) | (refine wpAnyH_take (i := 8) (v := undef) (Reg.get rfl) (by kernel_rfl) (by kernel_rfl) (by kernel_rfl) (fun _ _ _ h => h) (Or.inr ⟨by rfl, rfl⟩) hHeld ?_)
                try simp only [Act.put, List.setIfInBounds_toArray, List.set_cons_zero, List.set_cons_succ]
                first | (refine wpAnyH_take (i := 9) (v := ?_) (Reg.get rfl) (by kernel_rfl) (by kernel_rfl) (by kernel_rfl) (fun _ _ _ h => h) (Or.inl ⟨by rfl, ?_⟩) hHeld ?_; rotate_left 1; (focus (intro wq hSw; (try dsimp only at hSw); have s_bk := hSw; have L_bk := Lay.c4 s_bk;  go_simp <;> with_reducible rfl))) | (refine wpAnyH_take (i := 9) (v := undef) (Reg.get rfl) (by kernel_rfl) (by kernel_rfl) (by kernel_rfl) (fun _ _ _ h => h) (Or.inr ⟨by rfl, rfl⟩) hHeld ?_)
                try simp only [Act.put, List.setIfInBounds_toArray, List.set_cons_zero, List.set_cons_succ]
                first | (refine wpAnyH_take (i := 10) (v := ?_) (Reg.get rfl) (by kernel_rfl) (by kernel_rfl) (by kernel_rfl) (fun _ _ _ h => h) (Or.inl ⟨by rfl, ?_⟩) hHeld ?_; rotate_left 1; (focus (intro wq hSw; (try dsimp only at hSw); have s_bk := hSw; have L_bk := Lay.c4 s_bk;  go_simp <;> with_reducible rfl))) | (refine wpAnyH_take (i := 10) (v := undef) (Reg.get rfl) (by kernel_rfl) (by kernel_rfl) (by kernel_rfl) (fun _ _ _ h => h) (Or.inr ⟨by rfl, rfl⟩) hHeld ?_)
                try simp only [Act.put, List.setIfInBounds_toArray, List.set_cons_zero, List.set_cons_succ]
                first | ((refine wpAnyH_take (i := 11) (v := undef) (Reg.get rfl) (by kernel_rfl) (by kernel_rfl) (by kernel_rfl) (fun _ _ _ h => h) (Or.inr ⟨by rfl, rfl⟩) hHeld ?_)) | (refine wpAnyH_ready (rs := [11]) (by kernel_rfl) (by simp) ?_; refine AllReadyH.cons (Reg.get rfl) (fun K hK => ?_) AllReadyH.nil; clear hHeld; go_simp; ((generalize hW : World.alloc _ _ = w12; have PBB := blk_newK hW; (try simp only [World.size_drew] at PBB); (first | replace O3 := own_toE O3 hW | replace O3 := own_toE (own_drewE O3) hW | skip); (try (first | replace HD := own_toE HD hW | replace HD := own_toE (own_drewE HD) hW)); clear L_bk; replace bk : Bk.Blk w12 w.heap.size 27 #[.int .i64 ke, .int .i64 se, .int .i64 0, .slice A0 zk.length c0] := (by rw [← hW]; (repeat (first | with_reducible assumption | (with_reducible apply Bk.Blk.newAt; focus (first | (simp [Bk.size_set]; done) | (simp [Bk.size_set]; omega))) | with_reducible apply Bk.Blk.drewN | with_reducible apply Bk.Blk.drew | with_reducible apply Bk.Blk.set_ | (with_reducible apply Bk.Blk.far; focus (dsimp only; first | omega | (simp; omega) | (simp; done))) | with_reducible apply Bk.Blk.alloc))); replace B : Below w.heap.size w w12 := (by rw [← hW]; go_grown); replace B10 : Below w10.heap.size w10 w12 := (by rw [← hW]; go_grown); have z12 := size_toE hW; (try simp only [World.size_drew] at z12); clear hW; have L_bk := Lay.f4 bk; have L_bp := Lay.f4 PBB)); refine hK.out _ _ ?_ (fun hHeld => ?_); ((try dsimp only); (repeat (first | with_reducible assumption | (with_reducible apply Bk.Blk.newAt; focus (first | (simp [Bk.size_set]; done) | (simp [Bk.size_set]; omega))) | with_reducible apply Bk.Blk.drewN | with_reducible apply Bk.Blk.drew | with_reducible apply Bk.Blk.set_ | (with_reducible apply Bk.Blk.far; focus (dsimp only; first | omega | (simp; omega) | (simp; done))) | with_reducible apply Bk.Blk.alloc))); clear hK K)
                try simp only [Act.put, List.setIfInBounds_toArray, List.set_cons_zero, List.set_cons_succ]
                first | ((refine wpAnyH_take (i := 12) (v := undef) (Reg.get rfl) (by kernel_rfl) (by kernel_rfl) (by kernel_rfl) (fun _ _ _ h => h) (Or.inr ⟨by rfl, rfl⟩) hHeld ?_)) | (refine wpAnyH_ready (rs := [12]) (by kernel_rfl) (by simp) ?_; refine AllReadyH.cons (Reg.get rfl) (fun K hK => ?_) AllReadyH.nil; clear hHeld; go_simp; (skip); refine hK.out _ _ ?_ (fun hHeld => ?_); ((try dsimp only); (repeat (first | with_reducible assumption | (with_reducible apply Bk.Blk.newAt; focus (first | (simp [Bk.size_set]; done) | (simp [Bk.size_set]; omega))) | with_reducible apply Bk.Blk.drewN | with_reducible apply Bk.Blk.drew | with_reducible apply Bk.Blk.set_ | (with_reducible apply Bk.Blk.far; focus (dsimp only; first | omega | (simp; omega) | (simp; done))) | with_reducible apply Bk.Blk.alloc))); clear hK K)
                try simp only [Act.put, List.setIfInBounds_toArray, List.set_cons_zero, List.set_cons_succ]
                first | (refine wpAnyH_take (i := 13) (v := ?_) (Reg.get rfl) (by kernel_rfl) (by kernel_rfl) (by kernel_rfl) (fun _ _ _ h => h) (Or.inl ⟨by rfl, ?_⟩) hHeld ?_; rotate_left 1; (focus (intro wq hSw; (try dsimp only at hSw); have s_bk := hSw; have L_bk := Lay.c4 s_bk;  go_simp <;> with_reducible rfl))) | (refine wpAnyH_take (i := 13) (v := undef) (Reg.get rfl) (by kernel_rfl) (by kernel_rfl) (by kernel_rfl) (fun _ _ _ h => h) (Or.inr ⟨by rfl, rfl⟩) hHeld ?_)
                try simp only [Act.put, List.setIfInBounds_toArray, List.set_cons_zero, List.set_cons_succ]
                refine wpAnyH_done (by kernel_rfl) ?_ _
                (try clear L_bp)
                generalize hW : World.setCell _ _ _ = w13
                have PB8 := blk_ofK (w' := w13) (blk_set4 PBB (.int .i64 ke') (.int .i64 se') (.int .i64 0) (.slice A' zk'.length c')) (by rw [← hW]; first | rfl | done)
                have HD8 := own_ofK (w' := w13) (own_set4K HD PBB (by decide) (.int .i64 ke') (.int .i64 se') (.int .i64 0) (.slice A' zk'.length c')) (by rw [← hW]; first | rfl | done)
                have zg := PBB.lt
                have B11 : Below w10.heap.size w10 w13 := by rw [← hW]; go_grown
                replace bk : Bk.Blk w13 (w.heap.size) 27 #[.int .i64 ke, .int .i64 se, .int .i64 0, .slice A0 zk.length c0] := (by rw [← hW]; (repeat (first | with_reducible assumption | (with_reducible apply Bk.Blk.newAt; focus (first | (simp [Bk.size_set]; done) | (simp [Bk.size_set]; omega))) | with_reducible apply Bk.Blk.drewN | with_reducible apply Bk.Blk.drew | with_reducible apply Bk.Blk.set_ | (with_reducible apply Bk.Blk.far; focus (dsimp only; first | omega | (simp; omega) | (simp; done))) | with_reducible apply Bk.Blk.alloc)))
                replace B : Below w.heap.size w w13 := (by rw [← hW]; go_grown)
                have z13 : w13.heap.size = _ := congrArg (fun W : World => W.heap.size) hW.symm
                (try simp only [World.size_alloc, Bk.size_set, World.size_drew, World.drewN] at z13)
                clear hW
                go_wp2_with fail
                go_meet
                exact ⟨50 + y.tmod 5, _, ke', se', zk', ok, A', c', rfl, rfl, hIN, by omega, PB8, HD8, bk, (by first | exact B | exact B.drew), (by first | exact B11 | exact B11.drew)⟩
            
              · skip
                clear hHeld; go_simp; ((generalize hW : World.alloc _ _ = w12; have PBB := blk_newK hW; (try simp only [World.size_drew] at PBB); (first | replace O3 := own_toE O3 hW | replace O3 := own_toE (own_drewE O3) hW | skip); (try (first | replace HD := own_toE HD hW | replace HD := own_toE (own_drewE HD) hW)); clear L_bk; replace bk : Bk.Blk w12 w.heap.size 27 #[.int .i64 ke, .int .i64 se, .int .i64 0, .slice A0 zk.length c0] := (by rw [← hW]; (repeat (first | with_reducible assumption | (with_reducible apply Bk.Blk.newAt; focus (first | (simp [Bk.size_set]; done) | (simp [Bk.size_set]; omega))) | with_reducible apply Bk.Blk.drewN | with_reducible apply Bk.Blk.drew | with_reducible apply Bk.Blk.set_ | (with_reducible apply Bk.Blk.far; focus (dsimp only; first | omega | (simp; omega) | (simp; done))) | with_reducible apply Bk.Blk.alloc))); replace B : Below w.heap.size w w12 := (by rw [← hW]; go_grown); replace B10 : Below w10.heap.size w10 w12 := (by rw [← hW]; go_grown); have z12 := size_toE hW; (try simp only [World.size_drew] at z12); clear hW; have L_bk := Lay.f4 bk; have L_bp := Lay.f4 PBB)); refine hK.out _ _ ?_ (fun hHeld => ?_); ((try dsimp only); (repeat (first | with_reducible assumption | (with_reducible apply Bk.Blk.newAt; focus (first | (simp [Bk.size_set]; done) | (simp [Bk.size_set]; omega))) | with_reducible apply Bk.Blk.drewN | with_reducible apply Bk.Blk.drew | with_reducible apply Bk.Blk.set_ | (with_reducible apply Bk.Blk.far; focus (dsimp only; first | omega | (simp; omega) | (simp; done))) | with_reducible apply Bk.Blk.alloc))); clear hK K
                try simp only [Act.put, List.setIfInBounds_toArray, List.set_cons_zero, List.set_cons_succ]
                first | ((refine wpAnyH_take (i := 7) (v := undef) (Reg.get rfl) (by kernel_rfl) (by kernel_rfl) (by kernel_rfl) (fun _ _ _ h => h) (Or.inr ⟨by rfl, rfl⟩) hHeld ?_)) | (refine wpAnyH_ready (rs := [7]) (by kernel_rfl) (by simp) ?_; refine AllReadyH.cons (Reg.get rfl) (fun K hK => ?_) AllReadyH.nil; clear hHeld; go_simp; ((go_at_call 29; (try rw [w50]); refine (inst_inv HN.out (by omega) (50 + y.tmod 5) (by omega) A0 c0 _ (by first | exact Rd.of_own O3 | exact Rd.of_own (own_drewE O3))).mono ?_; rintro x3 w11 ⟨ke', se', zk', ok, A', c', hIN, rfl, ho, hb0⟩; have HD := own_monoK ho (show w10.heap.size ≤ _ from (by first | omega | (simp; done) | (simp; omega))); clear ho; (try clear L_bp); (try (first | replace PBB := blk_underK PBB hb0 | replace PBB := blk_underK (blk_drewK PBB) hb0)); (first | replace B10 := stepN B10 hb0 (by first | omega | (simp; done) | (simp; omega)) | replace B10 := stepN B10.drew hb0 (by first | omega | (simp; done) | (simp; omega))); clear L_bk; replace bk : Bk.Blk w11 (w.heap.size) 27 #[.int .i64 ke, .int .i64 se, .int .i64 0, .slice A0 zk.length c0] := Bk.Blk.under hb0 (by (repeat (first | with_reducible assumption | (with_reducible apply Bk.Blk.newAt; focus (first | (simp [Bk.size_set]; done) | (simp [Bk.size_set]; omega))) | with_reducible apply Bk.Blk.drewN | with_reducible apply Bk.Blk.drew | with_reducible apply Bk.Blk.set_ | (with_reducible apply Bk.Blk.far; focus (dsimp only; first | omega | (simp; omega) | (simp; done))) | with_reducible apply Bk.Blk.alloc))); replace B : Below w.heap.size w w11 := Below.trans (by go_grown) (hb0.mono (by first | omega | (simp [Bk.size_set]; done) | (simp [Bk.size_set]; omega))); have z11 := hb0.size; (try simp only [World.size_alloc, Bk.size_set, World.size_drew, World.drewN] at z11); clear hb0; have L_bk := Lay.f4 bk; (try have L_bp := Lay.f4 PBB))); refine hK.out _ _ ?_ (fun hHeld => ?_); ((try dsimp only); (repeat (first | with_reducible assumption | (with_reducible apply Bk.Blk.newAt; focus (first | (simp [Bk.size_set]; done) | (simp [Bk.size_set]; omega))) | with_reducible apply Bk.Blk.drewN | with_reducible apply Bk.Blk.drew | with_reducible apply Bk.Blk.set_ | (with_reducible apply Bk.Blk.far; focus (dsimp only; first | omega | (simp; omega) | (simp; done))) | with_reducible apply Bk.Blk.alloc))); clear hK K)
                try simp only [Act.put, List.setIfInBounds_toArray, List.set_cons_zero, List.set_cons_succ]
                first | (refine wpAnyH_take (i := 8) (v := ?_) (Reg.get rfl) (by kernel_rfl) (by kernel_rfl) (by kernel_rfl) (fun _ _ _ h => h) (Or.inl ⟨by rfl, ?_⟩) hHeld ?_; rotate_left 1; (focus (intro wq hSw; (try dsimp only at hSw); have s_bk := hSw; have L_bk := Lay.c4 s_bk;  go_simp <;> with_reducible rfl))) | (refine wpAnyH_take (i := 8) (v := undef) (Reg.get rfl) (by kernel_rfl) (by kernel_rfl) (by kernel_rfl) (fun _ _ _ h => h) (Or.inr ⟨by rfl, rfl⟩) hHeld ?_)
                try simp only [Act.put, List.setIfInBounds_toArray, List.set_cons_zero, List.set_cons_succ]
                first | (refine wpAnyH_take (i := 9) (v := ?_) (Reg.get rfl) (by kernel_rfl) (by kernel_rfl) (by kernel_rfl) (fun _ _ _ h => h) (Or.inl ⟨by rfl, ?_⟩) hHeld ?_; rotate_left 1; (focus (intro wq hSw; (try dsimp only at hSw); have s_bk := hSw; have L_bk := Lay.c4 s_bk;  go_simp <;> with_reducible rfl))) | (refine wpAnyH_take (i := 9) (v := undef) (Reg.get rfl) (by kernel_rfl) (by kernel_rfl) (by kernel_rfl) (fun _ _ _ h => h) (Or.inr ⟨by rfl, rfl⟩) hHeld ?_)
                try simp only [Act.put, List.setIfInBounds_toArray, List.set_cons_zero, List.set_cons_succ]
                first | (refine wpAnyH_take (i := 10) (v := ?_) (Reg.get rfl) (by kernel_rfl) (by kernel_rfl) (by kernel_rfl) (fun _ _ _ h => h) (Or.inl ⟨by rfl, ?_⟩) hHeld ?_; rotate_left 1; (focus (intro wq hSw; (try dsimp only at hSw); have s_bk := hSw; have L_bk := Lay.c4 s_bk;  go_simp <;> with_reducible rfl))) | (refine wpAnyH_take (i := 10) (v := undef) (Reg.get rfl) (by kernel_rfl) (by kernel_rfl) (by kernel_rfl) (fun _ _ _ h => h) (Or.inr ⟨by rfl, rfl⟩) hHeld ?_)
                try simp only [Act.put, List.setIfInBounds_toArray, List.set_cons_zero, List.set_cons_succ]
                first | ((refine wpAnyH_take (i := 12) (v := undef) (Reg.get rfl) (by kernel_rfl) (by kernel_rfl) (by kernel_rfl) (fun _ _ _ h => h) (Or.inr ⟨by rfl, rfl⟩) hHeld ?_)) | (refine wpAnyH_ready (rs := [12]) (by kernel_rfl) (by simp) ?_; refine AllReadyH.cons (Reg.get rfl) (fun K hK => ?_) AllReadyH.nil; clear hHeld; go_simp; (skip); refine hK.out _ _ ?_ (fun hHeld => ?_); ((try dsimp only); (repeat (first | with_reducible assumption | (with_reducible apply Bk.Blk.newAt; focus (first | (simp [Bk.size_set]; done) | (simp [Bk.size_set]; omega))) | with_reducible apply Bk.Blk.drewN | with_reducible apply Bk.Blk.drew | with_reducible apply Bk.Blk.set_ | (with_reducible apply Bk.Blk.far; focus (dsimp only; first | omega | (simp; omega) | (simp; done))) | with_reducible apply Bk.Blk.alloc))); clear hK K)
                try simp only [Act.put, List.setIfInBounds_toArray, List.set_cons_zero, List.set_cons_succ]
                first | (refine wpAnyH_take (i := 13) (v := ?_) (Reg.get rfl) (by kernel_rfl) (by kernel_rfl) (by kernel_rfl) (fun _ _ _ h => h) (Or.inl ⟨by rfl, ?_⟩) hHeld ?_; rotate_left 1; (focus (intro wq hSw; (try dsimp only at hSw); have s_bk := hSw; have L_bk := Lay.c4 s_bk;  go_simp <;> with_reducible rfl))) | (refine wpAnyH_take (i := 13) (v := undef) (Reg.get rfl) (by kernel_rfl) (by kernel_rfl) (by kernel_rfl) (fun _ _ _ h => h) (Or.inr ⟨by rfl, rfl⟩) hHeld ?_)
                try simp only [Act.put, List.setIfInBounds_toArray, List.set_cons_zero, List.set_cons_succ]
                refine wpAnyH_done (by kernel_rfl) ?_ _
                (try clear L_bp)
                generalize hW : World.setCell _ _ _ = w13
                have PB8 := blk_ofK (w' := w13) (blk_set4 PBB (.int .i64 ke') (.int .i64 se') (.int .i64 0) (.slice A' zk'.length c')) (by rw [← hW]; first | rfl | done)
                have HD8 := own_ofK (w' := w13) (own_set4K HD PBB (by decide) (.int .i64 ke') (.int .i64 se') (.int .i64 0) (.slice A' zk'.length c')) (by rw [← hW]; first | rfl | done)
                have zg := PBB.lt
                have B11 : Below w10.heap.size w10 w13 := by rw [← hW]; go_grown
                replace bk : Bk.Blk w13 (w.heap.size) 27 #[.int .i64 ke, .int .i64 se, .int .i64 0, .slice A0 zk.length c0] := (by rw [← hW]; (repeat (first | with_reducible assumption | (with_reducible apply Bk.Blk.newAt; focus (first | (simp [Bk.size_set]; done) | (simp [Bk.size_set]; omega))) | with_reducible apply Bk.Blk.drewN | with_reducible apply Bk.Blk.drew | with_reducible apply Bk.Blk.set_ | (with_reducible apply Bk.Blk.far; focus (dsimp only; first | omega | (simp; omega) | (simp; done))) | with_reducible apply Bk.Blk.alloc)))
                replace B : Below w.heap.size w w13 := (by rw [← hW]; go_grown)
                have z13 : w13.heap.size = _ := congrArg (fun W : World => W.heap.size) hW.symm
                (try simp only [World.size_alloc, Bk.size_set, World.size_drew, World.drewN] at z13)
                clear hW
                go_wp2_with fail
                go_meet
                exact ⟨50 + y.tmod 5, _, ke', se', zk', ok, A', c', rfl, rfl, hIN, by omega, PB8, HD8, bk, (by first | exact B | exact B.drew), (by first | exact B11 | exact B11.drew)⟩
            
            · skip
              clear hHeld; go_simp; ((generalize hW : World.alloc _ _ = w12; have PBB := blk_newK hW; (try simp only [World.size_drew] at PBB); (first | replace O3 := own_toE O3 hW | replace O3 := own_toE (own_drewE O3) hW | skip); (try (first | replace HD := own_toE HD hW | replace HD := own_toE (own_drewE HD) hW)); clear L_bk; replace bk : Bk.Blk w12 w.heap.size 27 #[.int .i64 ke, .int .i64 se, .int .i64 0, .slice A0 zk.length c0] := (by rw [← hW]; (repeat (first | with_reducible assumption | (with_reducible apply Bk.Blk.newAt; focus (first | (simp [Bk.size_set]; done) | (simp [Bk.size_set]; omega))) | with_reducible apply Bk.Blk.drewN | with_reducible apply Bk.Blk.drew | with_reducible apply Bk.Blk.set_ | (with_reducible apply Bk.Blk.far; focus (dsimp only; first | omega | (simp; omega) | (simp; done))) | with_reducible apply Bk.Blk.alloc))); replace B : Below w.heap.size w w12 := (by rw [← hW]; go_grown); replace B10 : Below w10.heap.size w10 w12 := (by rw [← hW]; go_grown); have z12 := size_toE hW; (try simp only [World.size_drew] at z12); clear hW; have L_bk := Lay.f4 bk; have L_bp := Lay.f4 PBB)); refine hK.out _ _ ?_ (fun hHeld => ?_); ((try dsimp only); (repeat (first | with_reducible assumption | (with_reducible apply Bk.Blk.newAt; focus (first | (simp [Bk.size_set]; done) | (simp [Bk.size_set]; omega))) | with_reducible apply Bk.Blk.drewN | with_reducible apply Bk.Blk.drew | with_reducible apply Bk.Blk.set_ | (with_reducible apply Bk.Blk.far; focus (dsimp only; first | omega | (simp; omega) | (simp; done))) | with_reducible apply Bk.Blk.alloc))); clear hK K
              try simp only [Act.put, List.setIfInBounds_toArray, List.set_cons_zero, List.set_cons_succ]
              first | ((refine wpAnyH_take (i := 4) (v := undef) (Reg.get rfl) (by kernel_rfl) (by kernel_rfl) (by kernel_rfl) (fun _ _ _ h => h) (Or.inr ⟨by rfl, rfl⟩) hHeld ?_)) | (refine wpAnyH_ready (rs := [4]) (by kernel_rfl) (by simp) ?_; refine AllReadyH.cons (Reg.get rfl) (fun K hK => ?_) AllReadyH.nil; clear hHeld; go_simp; ((go_at_call 28; refine (at_any A n c zs _ _ (by first | exact HR.out.below B | exact (HR.out.below B).drew) HB.out (by omega) (by omega) (by omega)).mono ?_; rintro x2 w' ⟨y, ⟨y0, y1⟩, rfl, rfl⟩; have m0 := tm5 y0; have w50 : IntKind.i64.wrap (50 + y.tmod 5) = 50 + y.tmod 5 := IntWalk.i64_in _ ⟨by omega, by omega⟩)); refine hK.out _ _ ?_ (fun hHeld => ?_); ((try dsimp only); (repeat (first | with_reducible assumption | (with_reducible apply Bk.Blk.newAt; focus (first | (simp [Bk.size_set]; done) | (simp [Bk.size_set]; omega))) | with_reducible apply Bk.Blk.drewN | with_reducible apply Bk.Blk.drew | with_reducible apply Bk.Blk.set_ | (with_reducible apply Bk.Blk.far; focus (dsimp only; first | omega | (simp; omega) | (simp; done))) | with_reducible apply Bk.Blk.alloc))); clear hK K)
              try simp only [Act.put, List.setIfInBounds_toArray, List.set_cons_zero, List.set_cons_succ]
              first | (refine wpAnyH_take (i := 5) (v := ?_) (Reg.get rfl) (by kernel_rfl) (by kernel_rfl) (by kernel_rfl) (fun _ _ _ h => h) (Or.inl ⟨by rfl, ?_⟩) hHeld ?_; rotate_left 1; (focus (intro wq hSw; (try dsimp only at hSw); have s_bk := hSw; have L_bk := Lay.c4 s_bk;  go_simp <;> with_reducible rfl))) | (refine wpAnyH_take (i := 5) (v := undef) (Reg.get rfl) (by kernel_rfl) (by kernel_rfl) (by kernel_rfl) (fun _ _ _ h => h) (Or.inr ⟨by rfl, rfl⟩) hHeld ?_)
              try simp only [Act.put, List.setIfInBounds_toArray, List.set_cons_zero, List.set_cons_succ]
              first | (refine wpAnyH_take (i := 6) (v := ?_) (Reg.get rfl) (by kernel_rfl) (by kernel_rfl) (by kernel_rfl) (fun _ _ _ h => h) (Or.inl ⟨by rfl, ?_⟩) hHeld ?_; rotate_left 1; (focus (intro wq hSw; (try dsimp only at hSw); have s_bk := hSw; have L_bk := Lay.c4 s_bk;  go_simp <;> with_reducible rfl))) | (refine wpAnyH_take (i := 6) (v := undef) (Reg.get rfl) (by kernel_rfl) (by kernel_rfl) (by kernel_rfl) (fun _ _ _ h => h) (Or.inr ⟨by rfl, rfl⟩) hHeld ?_)
              try simp only [Act.put, List.setIfInBounds_toArray, List.set_cons_zero, List.set_cons_succ]
              first | ((refine wpAnyH_take (i := 7) (v := undef) (Reg.get rfl) (by kernel_rfl) (by kernel_rfl) (by kernel_rfl) (fun _ _ _ h => h) (Or.inr ⟨by rfl, rfl⟩) hHeld ?_)) | (refine wpAnyH_ready (rs := [7]) (by kernel_rfl) (by simp) ?_; refine AllReadyH.cons (Reg.get rfl) (fun K hK => ?_) AllReadyH.nil; clear hHeld; go_simp; ((go_at_call 29; (try rw [w50]); refine (inst_inv HN.out (by omega) (50 + y.tmod 5) (by omega) A0 c0 _ (by first | exact Rd.of_own O3 | exact Rd.of_own (own_drewE O3))).mono ?_; rintro x3 w11 ⟨ke', se', zk', ok, A', c', hIN, rfl, ho, hb0⟩; have HD := own_monoK ho (show w10.heap.size ≤ _ from (by first | omega | (simp; done) | (simp; omega))); clear ho; (try clear L_bp); (try (first | replace PBB := blk_underK PBB hb0 | replace PBB := blk_underK (blk_drewK PBB) hb0)); (first | replace B10 := stepN B10 hb0 (by first | omega | (simp; done) | (simp; omega)) | replace B10 := stepN B10.drew hb0 (by first | omega | (simp; done) | (simp; omega))); clear L_bk; replace bk : Bk.Blk w11 (w.heap.size) 27 #[.int .i64 ke, .int .i64 se, .int .i64 0, .slice A0 zk.length c0] := Bk.Blk.under hb0 (by (repeat (first | with_reducible assumption | (with_reducible apply Bk.Blk.newAt; focus (first | (simp [Bk.size_set]; done) | (simp [Bk.size_set]; omega))) | with_reducible apply Bk.Blk.drewN | with_reducible apply Bk.Blk.drew | with_reducible apply Bk.Blk.set_ | (with_reducible apply Bk.Blk.far; focus (dsimp only; first | omega | (simp; omega) | (simp; done))) | with_reducible apply Bk.Blk.alloc))); replace B : Below w.heap.size w w11 := Below.trans (by go_grown) (hb0.mono (by first | omega | (simp [Bk.size_set]; done) | (simp [Bk.size_set]; omega))); have z11 := hb0.size; (try simp only [World.size_alloc, Bk.size_set, World.size_drew, World.drewN] at z11); clear hb0; have L_bk := Lay.f4 bk; (try have L_bp := Lay.f4 PBB))); refine hK.out _ _ ?_ (fun hHeld => ?_); ((try dsimp only); (repeat (first | with_reducible assumption | (with_reducible apply Bk.Blk.newAt; focus (first | (simp [Bk.size_set]; done) | (simp [Bk.size_set]; omega))) | with_reducible apply Bk.Blk.drewN | with_reducible apply Bk.Blk.drew | with_reducible apply Bk.Blk.set_ | (with_reducible apply Bk.Blk.far; focus (dsimp only; first | omega | (simp; omega) | (simp; done))) | with_reducible apply Bk.Blk.alloc))); clear hK K)
              try simp only [Act.put, List.setIfInBounds_toArray, List.set_cons_zero, List.set_cons_succ]
              first | (refine wpAnyH_take (i := 8) (v := ?_) (Reg.get rfl) (by kernel_rfl) (by kernel_rfl) (by kernel_rfl) (fun _ _ _ h => h) (Or.inl ⟨by rfl, ?_⟩) hHeld ?_; rotate_left 1; (focus (intro wq hSw; (try dsimp only at hSw); have s_bk := hSw; have L_bk := Lay.c4 s_bk;  go_simp <;> with_reducible rfl))) | (refine wpAnyH_take (i := 8) (v := undef) (Reg.get rfl) (by kernel_rfl) (by kernel_rfl) (by kernel_rfl) (fun _ _ _ h => h) (Or.inr ⟨by rfl, rfl⟩) hHeld ?_)
              try simp only [Act.put, List.setIfInBounds_toArray, List.set_cons_zero, List.set_cons_succ]
              first | (refine wpAnyH_take (i := 9) (v := ?_) (Reg.get rfl) (by kernel_rfl) (by kernel_rfl) (by kernel_rfl) (fun _ _ _ h => h) (Or.inl ⟨by rfl, ?_⟩) hHeld ?_; rotate_left 1; (focus (intro wq hSw; (try dsimp only at hSw); have s_bk := hSw; have L_bk := Lay.c4 s_bk;  go_simp <;> with_reducible rfl))) | (refine wpAnyH_take (i := 9) (v := undef) (Reg.get rfl) (by kernel_rfl) (by kernel_rfl) (by kernel_rfl) (fun _ _ _ h => h) (Or.inr ⟨by rfl, rfl⟩) hHeld ?_)
              try simp only [Act.put, List.setIfInBounds_toArray, List.set_cons_zero, List.set_cons_succ]
              first | (refine wpAnyH_take (i := 10) (v := ?_) (Reg.get rfl) (by kernel_rfl) (by kernel_rfl) (by kernel_rfl) (fun _ _ _ h => h) (Or.inl ⟨by rfl, ?_⟩) hHeld ?_; rotate_left 1; (focus (intro wq hSw; (try dsimp only at hSw); have s_bk := hSw; have L_bk := Lay.c4 s_bk;  go_simp <;> with_reducible rfl))) | (refine wpAnyH_take (i := 10) (v := undef) (Reg.get rfl) (by kernel_rfl) (by kernel_rfl) (by kernel_rfl) (fun _ _ _ h => h) (Or.inr ⟨by rfl, rfl⟩) hHeld ?_)
              try simp only [Act.put, List.setIfInBounds_toArray, List.set_cons_zero, List.set_cons_succ]
              first | ((refine wpAnyH_take (i := 12) (v := undef) (Reg.get rfl) (by kernel_rfl) (by kernel_rfl) (by kernel_rfl) (fun _ _ _ h => h) (Or.inr ⟨by rfl, rfl⟩) hHeld ?_)) | (refine wpAnyH_ready (rs := [12]) (by kernel_rfl) (by simp) ?_; refine AllReadyH.cons (Reg.get rfl) (fun K hK => ?_) AllReadyH.nil; clear hHeld; go_simp; (skip); refine hK.out _ _ ?_ (fun hHeld => ?_); ((try dsimp only); (repeat (first | with_reducible assumption | (with_reducible apply Bk.Blk.newAt; focus (first | (simp [Bk.size_set]; done) | (simp [Bk.size_set]; omega))) | with_reducible apply Bk.Blk.drewN | with_reducible apply Bk.Blk.drew | with_reducible apply Bk.Blk.set_ | (with_reducible apply Bk.Blk.far; focus (dsimp only; first | omega | (simp; omega) | (simp; done))) | with_reducible apply Bk.Blk.alloc))); clear hK K)
              try simp only [Act.put, List.setIfInBounds_toArray, List.set_cons_zero, List.set_cons_succ]
              first | (refine wpAnyH_take (i := 13) (v := ?_) (Reg.get rfl) (by kernel_rfl) (by kernel_rfl) (by kernel_rfl) (fun _ _ _ h => h) (Or.inl ⟨by rfl, ?_⟩) hHeld ?_; rotate_left 1; (focus (intro wq hSw; (try dsimp only at hSw); have s_bk := hSw; have L_bk := Lay.c4 s_bk;  go_simp <;> with_reducible rfl))) | (refine wpAnyH_take (i := 13) (v := undef) (Reg.get rfl) (by kernel_rfl) (by kernel_rfl) (by kernel_rfl) (fun _ _ _ h => h) (Or.inr ⟨by rfl, rfl⟩) hHeld ?_)
              try simp only [Act.put, List.setIfInBounds_toArray, List.set_cons_zero, List.set_cons_succ]
              refine wpAnyH_done (by kernel_rfl) ?_ _
              (try clear L_bp)
              generalize hW : World.setCell _ _ _ = w13
              have PB8 := blk_ofK (w' := w13) (blk_set4 PBB (.int .i64 ke') (.int .i64 se') (.int .i64 0) (.slice A' zk'.length c')) (by rw [← hW]; first | rfl | done)
              have HD8 := own_ofK (w' := w13) (own_set4K HD PBB (by decide) (.int .i64 ke') (.int .i64 se') (.int .i64 0) (.slice A' zk'.length c')) (by rw [← hW]; first | rfl | done)
              have zg := PBB.lt
              have B11 : Below w10.heap.size w10 w13 := by rw [← hW]; go_grown
              replace bk : Bk.Blk w13 (w.heap.size) 27 #[.int .i64 ke, .int .i64 se, .int .i64 0, .slice A0 zk.length c0] := (by rw [← hW]; (repeat (first | with_reducible assumption | (with_reducible apply Bk.Blk.newAt; focus (first | (simp [Bk.size_set]; done) | (simp [Bk.size_set]; omega))) | with_reducible apply Bk.Blk.drewN | with_reducible apply Bk.Blk.drew | with_reducible apply Bk.Blk.set_ | (with_reducible apply Bk.Blk.far; focus (dsimp only; first | omega | (simp; omega) | (simp; done))) | with_reducible apply Bk.Blk.alloc)))
              replace B : Below w.heap.size w w13 := (by rw [← hW]; go_grown)
              have z13 : w13.heap.size = _ := congrArg (fun W : World => W.heap.size) hW.symm
              (try simp only [World.size_alloc, Bk.size_set, World.size_drew, World.drewN] at z13)
              clear hW
              go_wp2_with fail
              go_meet
              exact ⟨50 + y.tmod 5, _, ke', se', zk', ok, A', c', rfl, rfl, hIN, by omega, PB8, HD8, bk, (by first | exact B | exact B.drew), (by first | exact B11 | exact B11.drew)⟩
          case rest =>
            obtain ⟨w20, hw20⟩ : ∃ W, W = wc := ⟨_, rfl⟩
            subst hw20
            clear bk B
            obtain ⟨key, gx, ke', se', zk', ok, A', c', rfl, rfl, ⟨hI, hN⟩, hgx, bx, hO, bk, B, B10⟩ := hcut
            have O1 := own_belowE H1.out B10
            have O2 := own_belowE H2.out B10
            have O3 := own_belowE H3.out B10
            have a1 := Lib.hid (apart_fresh H1.out hO (Nat.le_refl _))
            have a2 := Lib.hid (apart_fresh H2.out hO (Nat.le_refl _))
            have O4 := own_monoK hO (show w.heap.size + 1 ≤ _ from hlo)
            have HN2 := Lib.hid hN
            clear hN
            have zB := B10.size
            rcases hI with ⟨rfl, hk1, hk2, hk3⟩ | ⟨rfl, hk1, hk, hne, hk2⟩
            · obtain rfl : ke = ke' := hk1.symm
              obtain rfl : se = se' := hk2.symm
              obtain rfl : zk = zk' := hk3.symm
              have L_bk := Lay.f4 bk
              have L_bx := Lay.f4 bx
              go_wp2_with fail
              clear L_bk L_bx
              refine (eqks_yes ke se 0 A' zk.length c' A0 c0 zk _ (Rd.of_own hO) (Rd.of_own O3)).mono ?_
              rintro x w21 ⟨rfl, hb0⟩
              replace O1 := own_belowE O1 hb0
              replace O2 := own_belowE O2 hb0
              replace O4 := own_belowE O4 hb0
              clear hO O3
              replace bk : Bk.Blk w21 (w.heap.size) 27 #[.int .i64 ke, .int .i64 se, .int .i64 0, .slice A0 zk.length c0] := Bk.Blk.under hb0 (by (repeat (first | with_reducible assumption | (with_reducible apply Bk.Blk.newAt; focus (first | (simp [Bk.size_set]; done) | (simp [Bk.size_set]; omega))) | with_reducible apply Bk.Blk.drewN | with_reducible apply Bk.Blk.drew | with_reducible apply Bk.Blk.set_ | (with_reducible apply Bk.Blk.far; focus (dsimp only; first | omega | (simp; omega) | (simp; done))) | with_reducible apply Bk.Blk.alloc)))
              replace bx : Bk.Blk w21 (gx) 27 #[.int .i64 ke, .int .i64 se, .int .i64 0, .slice A' zk.length c'] := Bk.Blk.under hb0 (by (repeat (first | with_reducible assumption | (with_reducible apply Bk.Blk.newAt; focus (first | (simp [Bk.size_set]; done) | (simp [Bk.size_set]; omega))) | with_reducible apply Bk.Blk.drewN | with_reducible apply Bk.Blk.drew | with_reducible apply Bk.Blk.set_ | (with_reducible apply Bk.Blk.far; focus (dsimp only; first | omega | (simp; omega) | (simp; done))) | with_reducible apply Bk.Blk.alloc)))
              replace B : Below w.heap.size w w21 := Below.trans (by go_grown) (hb0.mono (by first | omega | (simp [Bk.size_set]; done) | (simp [Bk.size_set]; omega)))
              have z21 := hb0.size
              (try simp only [World.size_alloc, Bk.size_set, World.size_drew, World.drewN] at z21)
              clear hb0
              have L_bk := Lay.f4 bk
              have L_bx := Lay.f4 bx
              go_wp2_with fail
              go_roundw
              case rel => exact ⟨i + 1, ke, se, zk, ks, cs, A', c', A1, c1, A2, c2, by omega, by go_num, rfl, rfl, HN2.out, own_set4K O1 bk (by decide) _ _ _ _, own_set4K O2 bk (by decide) _ _ _ _, own_set4K O4 bk (by decide) _ _ _ _, P12.out, a1.out, a2.out, blk_set4 bk _ _ _ _, (by first | omega | (simp [Bk.size_set]; omega)), by go_grown⟩
              case measure => simp [intOf]; omega
            · obtain rfl : key = ke' := hk1.symm
              subst hk2
              have q1 : (key == ke) = false := by simpa using hne
              have L_bk := Lay.f4 bk
              have L_bx := Lay.f4 bx
              go_wp2_with fail
              refine (containsN A1 ks.length c1 ks key _ (Rd.of_own O1) hk).mono ?_
              rintro x2 w' ⟨rfl, rfl⟩
              go_wp2_with fail
              go_roundw
              case rel => exact ⟨i + 1, key, 0, zk', ks, cs, A', c', A1, c1, A2, c2, by omega, by go_num, rfl, rfl, HN2.out, own_set4K O1 bk (by decide) _ _ _ _, own_set4K O2 bk (by decide) _ _ _ _, own_set4K O4 bk (by decide) _ _ _ _, P12.out, a1.out, a2.out, blk_set4 bk _ _ _ _, (by first | omega | (simp [Bk.size_set]; omega)), by go_grown⟩
              case measure => simp [intOf]; omega
        · have e0 : (x % 4 == 0) = false := by simpa using h0
          clear h0 hm0
          have L_bk := Lay.f4 bk
          have B10 : Below w10.heap.size w10 w10 := Below.refl _ _
          go_wp2_with fail
          clear L_bk
          generalize hW : World.alloc _ _ = w11
          have hone := Rd.of_own (own_litM hW (Nat.le_refl _))
          replace B10 : Below w10.heap.size w10 w11 := by rw [← hW]; go_grown
          have O3 := own_belowE H3.out B10
          replace bk : Bk.Blk w11 (w.heap.size) 27 #[.int .i64 ke, .int .i64 se, .int .i64 0, .slice A0 zk.length c0] := (by rw [← hW]; (repeat (first | with_reducible assumption | (with_reducible apply Bk.Blk.newAt; focus (first | (simp [Bk.size_set]; done) | (simp [Bk.size_set]; omega))) | with_reducible apply Bk.Blk.drewN | with_reducible apply Bk.Blk.drew | with_reducible apply Bk.Blk.set_ | (with_reducible apply Bk.Blk.far; focus (dsimp only; first | omega | (simp; omega) | (simp; done))) | with_reducible apply Bk.Blk.alloc)))
          replace B : Below w.heap.size w w11 := (by rw [← hW]; go_grown)
          have z11 : w11.heap.size = _ := congrArg (fun W : World => W.heap.size) hW.symm
          (try simp only [World.size_alloc, Bk.size_set, World.size_drew, World.drewN] at z11)
          clear hW
          refine (prot_inv HN.out (by omega) A0 c0 _ _ _ (HT.out.below B) (Rd.of_own O3) hone).mono ?_
          rintro x w12 ⟨se', pc, mac, pm, ok, A', c', D, e, hP, rfl, hO, hb0⟩
          replace B10 := stepN B10 hb0 B10.size
          replace bk : Bk.Blk w12 (w.heap.size) 27 #[.int .i64 ke, .int .i64 se, .int .i64 0, .slice A0 zk.length c0] := Bk.Blk.under hb0 (by (repeat (first | with_reducible assumption | (with_reducible apply Bk.Blk.newAt; focus (first | (simp [Bk.size_set]; done) | (simp [Bk.size_set]; omega))) | with_reducible apply Bk.Blk.drewN | with_reducible apply Bk.Blk.drew | with_reducible apply Bk.Blk.set_ | (with_reducible apply Bk.Blk.far; focus (dsimp only; first | omega | (simp; omega) | (simp; done))) | with_reducible apply Bk.Blk.alloc)))
          replace B : Below w.heap.size w w12 := Below.trans (by go_grown) (hb0.mono (by first | omega | (simp [Bk.size_set]; done) | (simp [Bk.size_set]; omega)))
          have z12 := hb0.size
          (try simp only [World.size_alloc, Bk.size_set, World.size_drew, World.drewN] at z12)
          clear hb0
          have O4 := own_monoK hO (show w.heap.size + 1 ≤ _ from by omega)
          have O5 := own_monoK hO (show w10.heap.size ≤ _ from by omega)
          have O1 := own_belowE H1.out B10
          have O2 := own_belowE H2.out B10
          have a1 := Lib.hid (apart_fresh H1.out O5 (Nat.le_refl _))
          have a2 := Lib.hid (apart_fresh H2.out O5 (Nat.le_refl _))
          clear hO O3 hone
          have L_bk := Lay.f4 bk
          rcases hP with ⟨rfl, hke, hse, hpc⟩ | ⟨rfl, hke, hse, hpc⟩
          · subst hse hpc
            have q0 : (ke == 0) = false := by simpa using hke
            have q9 : (ke != 0) = true := by simpa using hke
            go_wp2_with fail
            clear L_bk
            generalize hW : World.alloc _ _ = w13
            have B13 : Below w12.heap.size w12 w13 := by rw [← hW]; go_grown
            replace O1 := own_belowE O1 B13
            replace O2 := own_belowE O2 B13
            replace O4 := own_belowE O4 B13
            clear B10 B13 O5
            replace bx : Bk.Blk w13 (w12.heap.size) 27 #[.int .i64 ke, .int .i64 (se + 1), .int .i64 0, .slice A' zk.length c'] := (by rw [← hW]; apply Bk.Blk.to; (focus ((repeat (first | with_reducible assumption | (with_reducible apply Bk.Blk.newAt; focus (first | (simp [Bk.size_set]; done) | (simp [Bk.size_set]; omega))) | with_reducible apply Bk.Blk.drewN | with_reducible apply Bk.Blk.drew | with_reducible apply Bk.Blk.set_ | (with_reducible apply Bk.Blk.far; focus (dsimp only; first | omega | (simp; omega) | (simp; done))) | with_reducible apply Bk.Blk.alloc)))); rfl)
            have bp : Bk.Blk w13 (w12.heap.size + 1) 29 #[.int .i64 (se + 1), .slice D pm e, .int .i64 mac] := (by rw [← hW]; apply Bk.Blk.to; (focus ((repeat (first | with_reducible assumption | (with_reducible apply Bk.Blk.newAt; focus (first | (simp [Bk.size_set]; done) | (simp [Bk.size_set]; omega))) | with_reducible apply Bk.Blk.drewN | with_reducible apply Bk.Blk.drew | with_reducible apply Bk.Blk.set_ | (with_reducible apply Bk.Blk.far; focus (dsimp only; first | omega | (simp; omega) | (simp; done))) | with_reducible apply Bk.Blk.alloc)))); rfl)
            replace bk : Bk.Blk w13 (w.heap.size) 27 #[.int .i64 ke, .int .i64 se, .int .i64 0, .slice A0 zk.length c0] := (by rw [← hW]; (repeat (first | with_reducible assumption | (with_reducible apply Bk.Blk.newAt; focus (first | (simp [Bk.size_set]; done) | (simp [Bk.size_set]; omega))) | with_reducible apply Bk.Blk.drewN | with_reducible apply Bk.Blk.drew | with_reducible apply Bk.Blk.set_ | (with_reducible apply Bk.Blk.far; focus (dsimp only; first | omega | (simp; omega) | (simp; done))) | with_reducible apply Bk.Blk.alloc)))
            replace B : Below w.heap.size w w13 := (by rw [← hW]; go_grown)
            have z13 : w13.heap.size = _ := congrArg (fun W : World => W.heap.size) hW.symm
            (try simp only [World.size_alloc, Bk.size_set, World.size_drew, World.drewN] at z13)
            clear hW
            have L_bk := Lay.f4 bk
            have L_bx := Lay.f4 bx
            have L_bp := Lay.f3 bp
            have HU := Lib.hid HN.out.apart
            have HSM := Lib.hid HN.out.same
            go_loopw [12] (fun v wx => ∃ j : Nat, j ≤ ks.length ∧ v = .int .i64 (j : Int) ∧ w13.heap = wx.heap ∧ Below w13.heap.size w13 wx) (fun v _ => ks.length - (intOf v).toNat)
            case atStart => exact ⟨0, Nat.zero_le _, rfl, rfl, Below.refl _ _⟩
            case round =>
              obtain ⟨w23, hw23⟩ : ∃ W, W = wr := ⟨_, rfl⟩
              subst hw23
              obtain ⟨j, hj, rfl, hh, B23⟩ := hrel
              replace O1 := own_ofK O1 hh
              replace O2 := own_ofK O2 hh
              replace O4 := own_ofK O4 hh
              replace bk := blk_ofK bk hh
              replace bx := blk_ofK bx hh
              replace bp := blk_ofK bp hh
              replace B := stepN B B23 (by omega)
              have z23 : w23.heap.size = w12.heap.size + 1 + 1 := by rw [← hh]; exact z13
              have L_bk := Lay.f4 bk
              have L_bx := Lay.f4 bx
              have L_bp := Lay.f3 bp
              by_cases hjl : j < ks.length
              · obtain ⟨g1, f1, rfl, hg1, hc1⟩ := (Rd.of_own O1).int_at hjl
                obtain ⟨g2, f2, rfl, hg2, hc2⟩ := (Rd.of_own O2).int_at (show j < cs.length by rw [← HSM.out]; exact hjl)
                have hu := HU.out j hjl
                have hcl : (j : Int) < (cs.length : Int) := by rw [← HSM.out]; omega
                have HJL := Lib.hid (show j + 1 ≤ ks.length from hjl)
                have hj30 : j < 30 := by have := HN.out.short; omega
                have HJM := Lib.hid (show ks.length - (j + 1) < ks.length - j by omega)
                generalize ks.getD j 0 = kj at *
                generalize cs.getD j 0 = cj at *
                by_cases hkj : kj = ke
                · have q1 : (kj == ke) = true := by simpa using hkj
                  have q2 : (cj == se + 1) = false := by simpa using fun h => hu ⟨hkj, h⟩
                  clear hu hkj
                  go_wp2_with fail
                  go_quiet (fail)
                  go_wp2
                  go_roundw
                  case rel => exact ⟨j + 1, HJL.out, by go_num, hh, (B23.trans ⟨rfl, rfl, rfl, Nat.le_refl _, fun _ _ => rfl⟩)⟩
                  case measure => have := HJM.out; simp [intOf]; omega
                · have q1 : (kj == ke) = false := by simpa using hkj
                  clear hu hkj
                  go_wp2_with fail
                  go_quiet (fail)
                  go_wp2
                  go_roundw
                  case rel => exact ⟨j + 1, HJL.out, by go_num, hh, (B23.trans ⟨rfl, rfl, rfl, Nat.le_refl _, fun _ _ => rfl⟩)⟩
                  case measure => have := HJM.out; simp [intOf]; omega
              · obtain rfl : j = ks.length := by omega
                have hks := HN.out.short
                have hcs : cs.length ≤ i := by rw [← HSM.out]; exact HN.out.short
                go_wp2_with (at_builtin; refine Bk.stopHere ?_)
                show wpList _ _ _ _ _ _
                clear L_bk L_bx L_bp
                generalize hW : World.alloc _ _ = w14
                have B14 : Below w23.heap.size w23 w14 := by rw [← hW]; go_grown
                have rlit := Rd.of_own (own_litM hW (Nat.le_refl _))
                replace O1 := own_belowE O1 B14
                replace O2 := own_belowE O2 B14
                replace O4 := own_belowE O4 B14
                replace bk : Bk.Blk w14 (w.heap.size) 27 #[.int .i64 ke, .int .i64 se, .int .i64 0, .slice A0 zk.length c0] := (by rw [← hW]; (repeat (first | with_reducible assumption | (with_reducible apply Bk.Blk.newAt; focus (first | (simp [Bk.size_set]; done) | (simp [Bk.size_set]; omega))) | with_reducible apply Bk.Blk.drewN | with_reducible apply Bk.Blk.drew | with_reducible apply Bk.Blk.set_ | (with_reducible apply Bk.Blk.far; focus (dsimp only; first | omega | (simp; omega) | (simp; done))) | with_reducible apply Bk.Blk.alloc)))
                replace bx : Bk.Blk w14 (w12.heap.size) 27 #[.int .i64 ke, .int .i64 (se + 1), .int .i64 0, .slice A' zk.length c'] := (by rw [← hW]; (repeat (first | with_reducible assumption | (with_reducible apply Bk.Blk.newAt; focus (first | (simp [Bk.size_set]; done) | (simp [Bk.size_set]; omega))) | with_reducible apply Bk.Blk.drewN | with_reducible apply Bk.Blk.drew | with_reducible apply Bk.Blk.set_ | (with_reducible apply Bk.Blk.far; focus (dsimp only; first | omega | (simp; omega) | (simp; done))) | with_reducible apply Bk.Blk.alloc)))
                replace bp : Bk.Blk w14 (w12.heap.size + 1) 29 #[.int .i64 (se + 1), .slice D pm e, .int .i64 mac] := (by rw [← hW]; (repeat (first | with_reducible assumption | (with_reducible apply Bk.Blk.newAt; focus (first | (simp [Bk.size_set]; done) | (simp [Bk.size_set]; omega))) | with_reducible apply Bk.Blk.drewN | with_reducible apply Bk.Blk.drew | with_reducible apply Bk.Blk.set_ | (with_reducible apply Bk.Blk.far; focus (dsimp only; first | omega | (simp; omega) | (simp; done))) | with_reducible apply Bk.Blk.alloc)))
                replace B : Below w.heap.size w w14 := (by rw [← hW]; go_grown)
                have z14 : w14.heap.size = _ := congrArg (fun W : World => W.heap.size) hW.symm
                (try simp only [World.size_alloc, Bk.size_set, World.size_drew, World.drewN] at z14)
                clear hW
                refine wpl_app _ rfl _ _ 22 rfl (w.heap.size + 1) 3 i0 (.int .i64 0) 1 8 Tryd.underlying22 hi hz0 hz1 hz2 rfl (by decide) _ _ _ _ rfl O1 _ 1 1 [.int .i64 ke] rfl (by first | exact rlit | (rw [← z23]; exact rlit)) (fun u hu => by simp at hu; subst hu; rfl) (by unfold maxLen; omega) (by omega) (by omega) ?_
                intro A5 c5 w15 own1 hg1 hat1
                have P12b := Lib.hid (apart_app P12.out hat1 O2)
                have a1b := Lib.hid (apart_app a1.out hat1 O4)
                replace bk := blk_grownM hg1 (fun e => by have := own_lt O1 e.symm; omega) bk
                replace bx := blk_grownM hg1 (fun e => by have := own_lt H1.out e.symm; omega) bx
                replace bp := blk_grownM hg1 (fun e => by have := own_lt H1.out e.symm; omega) bp
                replace B := Mem.below_app B hg1 (by omega) (fun q h => by have := own_lt O1 h; omega)
                replace O2 := own_gr O2 hg1 P12.out.symm
                replace O4 := own_gr O4 hg1 a1.out.symm
                have z15 := hg1.size
                clear O1 hg1 hat1 rlit B14
                have O1 := own1
                have L_bk := Lay.f4 bk
                have L_bx := Lay.f4 bx
                have L_bp := Lay.f3 bp
                go_wp2_with (at_builtin; refine Bk.stopHere ?_)
                show wpList _ _ _ _ _ _
                clear L_bk L_bx L_bp
                generalize hW : World.alloc _ _ = w16
                have B14 : Below w15.heap.size w15 w16 := by rw [← hW]; go_grown
                have rlit := Rd.of_own (own_litM hW (Nat.le_refl _))
                replace O1 := own_belowE O1 B14
                replace O2 := own_belowE O2 B14
                replace O4 := own_belowE O4 B14
                replace bk : Bk.Blk w16 (w.heap.size) 27 #[.int .i64 ke, .int .i64 se, .int .i64 0, .slice A0 zk.length c0] := (by rw [← hW]; (repeat (first | with_reducible assumption | (with_reducible apply Bk.Blk.newAt; focus (first | (simp [Bk.size_set]; done) | (simp [Bk.size_set]; omega))) | with_reducible apply Bk.Blk.drewN | with_reducible apply Bk.Blk.drew | with_reducible apply Bk.Blk.set_ | (with_reducible apply Bk.Blk.far; focus (dsimp only; first | omega | (simp; omega) | (simp; done))) | with_reducible apply Bk.Blk.alloc)))
                replace bx : Bk.Blk w16 (w12.heap.size) 27 #[.int .i64 ke, .int .i64 (se + 1), .int .i64 0, .slice A' zk.length c'] := (by rw [← hW]; (repeat (first | with_reducible assumption | (with_reducible apply Bk.Blk.newAt; focus (first | (simp [Bk.size_set]; done) | (simp [Bk.size_set]; omega))) | with_reducible apply Bk.Blk.drewN | with_reducible apply Bk.Blk.drew | with_reducible apply Bk.Blk.set_ | (with_reducible apply Bk.Blk.far; focus (dsimp only; first | omega | (simp; omega) | (simp; done))) | with_reducible apply Bk.Blk.alloc)))
                replace bp : Bk.Blk w16 (w12.heap.size + 1) 29 #[.int .i64 (se + 1), .slice D pm e, .int .i64 mac] := (by rw [← hW]; (repeat (first | with_reducible assumption | (with_reducible apply Bk.Blk.newAt; focus (first | (simp [Bk.size_set]; done) | (simp [Bk.size_set]; omega))) | with_reducible apply Bk.Blk.drewN | with_reducible apply Bk.Blk.drew | with_reducible apply Bk.Blk.set_ | (with_reducible apply Bk.Blk.far; focus (dsimp only; first | omega | (simp; omega) | (simp; done))) | with_reducible apply Bk.Blk.alloc)))
                replace B : Below w.heap.size w w16 := (by rw [← hW]; go_grown)
                have z16 : w16.heap.size = _ := congrArg (fun W : World => W.heap.size) hW.symm
                (try simp only [World.size_alloc, Bk.size_set, World.size_drew, World.drewN] at z16)
                clear hW
                refine wpl_app _ rfl _ _ 22 rfl (w.heap.size + 1) 3 i0 (.int .i64 0) 1 8 Tryd.underlying22 hi hz0 hz1 hz2 rfl (by decide) _ _ _ _ rfl O2 _ 1 1 [.int .i64 (se + 1)] rfl rlit (fun u hu => by simp at hu; subst hu; rfl) (by unfold maxLen; omega) (by omega) (by omega) ?_
                intro A6 c6 w17 own2 hg2 hat2
                have P12c := Lib.hid (apart_app P12b.out.symm hat2 O1)
                have a2b := Lib.hid (apart_app a2.out hat2 O4)
                replace bk := blk_grownM hg2 (fun e => by have := own_lt O2 e.symm; omega) bk
                replace bx := blk_grownM hg2 (fun e => by have := own_lt H2.out e.symm; omega) bx
                replace B := Mem.below_app B hg2 (by omega) (fun q h => by have := own_lt O2 h; omega)
                replace O1 := own_gr O1 hg2 P12b.out
                replace O4 := own_gr O4 hg2 a2.out.symm
                have z17 := hg2.size
                clear O2 hg2 hat2 rlit B14 bp
                have HO1 := Lib.hid (show w17.ownsRow (w.heap.size + 1) 3 1 (.slice A5 (ks ++ [ke]).length c5) (ks ++ [ke]).length ((ks ++ [ke]).map (Value.int .i64)) by rw [List.length_append, List.map_append]; exact O1)
                have HO2 := Lib.hid (show w17.ownsRow (w.heap.size + 1) 3 1 (.slice A6 (cs ++ [se + 1]).length c6) (cs ++ [se + 1]).length ((cs ++ [se + 1]).map (Value.int .i64)) by rw [List.length_append, List.map_append]; exact own2)
                have HN2 := Lib.hid (HN.out.protect hke (by omega))
                have L_bk := Lay.f4 bk
                have L_bx := Lay.f4 bx
                go_wp2_with fail
                go_roundw
                case rel => exact ⟨i + 1, ke, se + 1, zk, ks ++ [ke], cs ++ [se + 1], A', c', A5, c5, A6, c6, by omega, by go_num, by simp, by simp, HN2.out, own_set4K HO1.out bk (by decide) _ _ _ _, own_set4K HO2.out bk (by decide) _ _ _ _, own_set4K O4 bk (by decide) _ _ _ _, P12c.out.symm, a1b.out, a2b.out, blk_set4 bk _ _ _ _, (by first | omega | (simp [Bk.size_set]; omega)), by go_grown⟩
                case measure => simp [intOf]; omega
          · subst hpc
            have q0 : (ke == 0) = true := by simpa using hke
            have q9 : (ke != 0) = false := by simpa using hke
            obtain rfl : se = se' := hse.symm
            have HK0 := Lib.hid hke
            clear hke
            have HN2 := Lib.hid HN.out.step
            go_wp2_with fail
            clear L_bk
            generalize hW : World.alloc _ _ = w13
            have B13 : Below w12.heap.size w12 w13 := by rw [← hW]; go_grown
            replace O1 := own_belowE O1 B13
            replace O2 := own_belowE O2 B13
            replace O4 := own_belowE O4 B13
            clear B10 B13 O5
            replace bx : Bk.Blk w13 (w12.heap.size) 27 #[.int .i64 ke, .int .i64 se, .int .i64 0, .slice A' zk.length c'] := (by rw [← hW]; apply Bk.Blk.to; (focus ((repeat (first | with_reducible assumption | (with_reducible apply Bk.Blk.newAt; focus (first | (simp [Bk.size_set]; done) | (simp [Bk.size_set]; omega))) | with_reducible apply Bk.Blk.drewN | with_reducible apply Bk.Blk.drew | with_reducible apply Bk.Blk.set_ | (with_reducible apply Bk.Blk.far; focus (dsimp only; first | omega | (simp; omega) | (simp; done))) | with_reducible apply Bk.Blk.alloc)))); rfl)
            have bp : Bk.Blk w13 (w12.heap.size + 1) 29 #[.int .i64 0, .slice D pm e, .int .i64 mac] := (by rw [← hW]; apply Bk.Blk.to; (focus ((repeat (first | with_reducible assumption | (with_reducible apply Bk.Blk.newAt; focus (first | (simp [Bk.size_set]; done) | (simp [Bk.size_set]; omega))) | with_reducible apply Bk.Blk.drewN | with_reducible apply Bk.Blk.drew | with_reducible apply Bk.Blk.set_ | (with_reducible apply Bk.Blk.far; focus (dsimp only; first | omega | (simp; omega) | (simp; done))) | with_reducible apply Bk.Blk.alloc)))); rfl)
            replace bk : Bk.Blk w13 (w.heap.size) 27 #[.int .i64 ke, .int .i64 se, .int .i64 0, .slice A0 zk.length c0] := (by rw [← hW]; (repeat (first | with_reducible assumption | (with_reducible apply Bk.Blk.newAt; focus (first | (simp [Bk.size_set]; done) | (simp [Bk.size_set]; omega))) | with_reducible apply Bk.Blk.drewN | with_reducible apply Bk.Blk.drew | with_reducible apply Bk.Blk.set_ | (with_reducible apply Bk.Blk.far; focus (dsimp only; first | omega | (simp; omega) | (simp; done))) | with_reducible apply Bk.Blk.alloc)))
            replace B : Below w.heap.size w w13 := (by rw [← hW]; go_grown)
            have z13 : w13.heap.size = _ := congrArg (fun W : World => W.heap.size) hW.symm
            (try simp only [World.size_alloc, Bk.size_set, World.size_drew, World.drewN] at z13)
            clear hW
            have L_bk := Lay.f4 bk
            have L_bx := Lay.f4 bx
            have L_bp := Lay.f3 bp
            go_loop [12] (fun v => v = .int .i64 0) (fun _ => 0)
            case atStart => rfl
            case round =>
              subst hrel
              go_wp2_with fail
              go_roundw
              case rel => exact ⟨i + 1, ke, se, zk, ks, cs, A', c', A1, c1, A2, c2, by omega, by go_num, rfl, rfl, HN2.out, own_set4K O1 bk (by decide) _ _ _ _, own_set4K O2 bk (by decide) _ _ _ _, own_set4K O4 bk (by decide) _ _ _ _, P12.out, a1.out, a2.out, blk_set4 bk _ _ _ _, (by first | omega | (simp [Bk.size_set]; omega)), by go_grown⟩
              case measure => simp [intOf]; omega
      · obtain rfl : i = 30 := by omega
        have L_bk := Lay.f4 bk
        have hni : ¬ installP ke se 0 ke zk zk.length := fun h => h.2.2.1 rfl
        have hy0 : installP 0 0 0 50 [] 0 := ⟨ninv_start.valid, ⟨by omega, by omega⟩, by omega, by simp⟩
        have hf := HN.out.few
        have O3 := H3.out
        go_wp2_with fail
        clear L_bk
        refine (inst_impl_no ke se 0 ke A0 zk.length c0 zk _ (Rd.of_own O3) (by omega) hni).mono ?_
        rintro x w11 ⟨A3, c3, rfl, hO, hb0⟩
        replace O3 := own_belowE O3 hb0
        replace bk : Bk.Blk w11 (w.heap.size) 27 #[.int .i64 ke, .int .i64 se, .int .i64 0, .slice A0 zk.length c0] := Bk.Blk.under hb0 (by (repeat (first | with_reducible assumption | (with_reducible apply Bk.Blk.newAt; focus (first | (simp [Bk.size_set]; done) | (simp [Bk.size_set]; omega))) | with_reducible apply Bk.Blk.drewN | with_reducible apply Bk.Blk.drew | with_reducible apply Bk.Blk.set_ | (with_reducible apply Bk.Blk.far; focus (dsimp only; first | omega | (simp; omega) | (simp; done))) | with_reducible apply Bk.Blk.alloc)))
        replace B : Below w.heap.size w w11 := Below.trans (by go_grown) (hb0.mono (by first | omega | (simp [Bk.size_set]; done) | (simp [Bk.size_set]; omega)))
        have z11 := hb0.size
        (try simp only [World.size_alloc, Bk.size_set, World.size_drew, World.drewN] at z11)
        clear hb0
        clear hO
        have L_bk := Lay.f4 bk
        go_wp2_with fail
        clear L_bk
        generalize hW : World.alloc _ _ = w12
        replace O3 := own_toE O3 hW
        replace bk : Bk.Blk w12 (w.heap.size) 27 #[.int .i64 ke, .int .i64 se, .int .i64 0, .slice A0 zk.length c0] := (by rw [← hW]; (repeat (first | with_reducible assumption | (with_reducible apply Bk.Blk.newAt; focus (first | (simp [Bk.size_set]; done) | (simp [Bk.size_set]; omega))) | with_reducible apply Bk.Blk.drewN | with_reducible apply Bk.Blk.drew | with_reducible apply Bk.Blk.set_ | (with_reducible apply Bk.Blk.far; focus (dsimp only; first | omega | (simp; omega) | (simp; done))) | with_reducible apply Bk.Blk.alloc)))
        replace B : Below w.heap.size w w12 := (by rw [← hW]; go_grown)
        have z12 : w12.heap.size = _ := congrArg (fun W : World => W.heap.size) hW.symm
        (try simp only [World.size_alloc, Bk.size_set, World.size_drew, World.drewN] at z12)
        clear hW
        refine (inst_impl_first 0 0 0 50 none 0 0 [] _ (Rd.of_own (own_nilK _ 0 3 1)) (by omega) hy0 rfl).mono ?_
        rintro x w13 ⟨A4, c4, rfl, hO, hb0⟩
        replace O3 := own_belowE O3 hb0
        replace bk : Bk.Blk w13 (w.heap.size) 27 #[.int .i64 ke, .int .i64 se, .int .i64 0, .slice A0 zk.length c0] := Bk.Blk.under hb0 (by (repeat (first | with_reducible assumption | (with_reducible apply Bk.Blk.newAt; focus (first | (simp [Bk.size_set]; done) | (simp [Bk.size_set]; omega))) | with_reducible apply Bk.Blk.drewN | with_reducible apply Bk.Blk.drew | with_reducible apply Bk.Blk.set_ | (with_reducible apply Bk.Blk.far; focus (dsimp only; first | omega | (simp; omega) | (simp; done))) | with_reducible apply Bk.Blk.alloc)))
        replace B : Below w.heap.size w w13 := Below.trans (by go_grown) (hb0.mono (by first | omega | (simp [Bk.size_set]; done) | (simp [Bk.size_set]; omega)))
        have z13 := hb0.size
        (try simp only [World.size_alloc, Bk.size_set, World.size_drew, World.drewN] at z13)
        clear hb0
        clear hO
        have L_bk := Lay.f4 bk
        go_wp2_with fail
        clear L_bk
        generalize hW : World.alloc _ _ = w14
        replace O3 := own_toE O3 hW
        replace bk : Bk.Blk w14 (w.heap.size) 27 #[.int .i64 ke, .int .i64 se, .int .i64 0, .slice A0 zk.length c0] := (by rw [← hW]; (repeat (first | with_reducible assumption | (with_reducible apply Bk.Blk.newAt; focus (first | (simp [Bk.size_set]; done) | (simp [Bk.size_set]; omega))) | with_reducible apply Bk.Blk.drewN | with_reducible apply Bk.Blk.drew | with_reducible apply Bk.Blk.set_ | (with_reducible apply Bk.Blk.far; focus (dsimp only; first | omega | (simp; omega) | (simp; done))) | with_reducible apply Bk.Blk.alloc)))
        have bf : Bk.Blk w14 (w13.heap.size) 27 #[.int .i64 50, .int .i64 0, .int .i64 0, .slice A4 0 c4] := (by rw [← hW]; apply Bk.Blk.to; (focus ((repeat (first | with_reducible assumption | (with_reducible apply Bk.Blk.newAt; focus (first | (simp [Bk.size_set]; done) | (simp [Bk.size_set]; omega))) | with_reducible apply Bk.Blk.drewN | with_reducible apply Bk.Blk.drew | with_reducible apply Bk.Blk.set_ | (with_reducible apply Bk.Blk.far; focus (dsimp only; first | omega | (simp; omega) | (simp; done))) | with_reducible apply Bk.Blk.alloc)))); rfl)
        replace B : Below w.heap.size w w14 := (by rw [← hW]; go_grown)
        have z14 : w14.heap.size = _ := congrArg (fun W : World => W.heap.size) hW.symm
        (try simp only [World.size_alloc, Bk.size_set, World.size_drew, World.drewN] at z14)
        clear hW
        refine (vY_impl ke se 0 A0 zk.length c0 zk _ (Rd.of_own O3) HN.out.valid).mono ?_
        rintro x w15 ⟨rfl, hb0⟩
        replace bk : Bk.Blk w15 (w.heap.size) 27 #[.int .i64 ke, .int .i64 se, .int .i64 0, .slice A0 zk.length c0] := Bk.Blk.under hb0 (by (repeat (first | with_reducible assumption | (with_reducible apply Bk.Blk.newAt; focus (first | (simp [Bk.size_set]; done) | (simp [Bk.size_set]; omega))) | with_reducible apply Bk.Blk.drewN | with_reducible apply Bk.Blk.drew | with_reducible apply Bk.Blk.set_ | (with_reducible apply Bk.Blk.far; focus (dsimp only; first | omega | (simp; omega) | (simp; done))) | with_reducible apply Bk.Blk.alloc)))
        replace bf : Bk.Blk w15 (w13.heap.size) 27 #[.int .i64 50, .int .i64 0, .int .i64 0, .slice A4 0 c4] := Bk.Blk.under hb0 (by (repeat (first | with_reducible assumption | (with_reducible apply Bk.Blk.newAt; focus (first | (simp [Bk.size_set]; done) | (simp [Bk.size_set]; omega))) | with_reducible apply Bk.Blk.drewN | with_reducible apply Bk.Blk.drew | with_reducible apply Bk.Blk.set_ | (with_reducible apply Bk.Blk.far; focus (dsimp only; first | omega | (simp; omega) | (simp; done))) | with_reducible apply Bk.Blk.alloc)))
        replace B : Below w.heap.size w w15 := Below.trans (by go_grown) (hb0.mono (by first | omega | (simp [Bk.size_set]; done) | (simp [Bk.size_set]; omega)))
        have z15 := hb0.size
        (try simp only [World.size_alloc, Bk.size_set, World.size_drew, World.drewN] at z15)
        clear hb0
        have L_bk := Lay.f4 bk
        have L_bf := Lay.f4 bf
        go_wp2_with fail
        go_ret
        exact ⟨rfl, by go_grown⟩
end Go.Proofs.YtgbmbnofnhhblaaDoor.Seal
