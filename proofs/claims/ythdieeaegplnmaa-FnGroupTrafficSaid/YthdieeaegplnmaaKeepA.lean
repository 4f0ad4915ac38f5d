/- KeepGroupFrame where it keeps the frame: what both sides hand back. -/
import Derived.Test.YthdieeaegplnmaaBaseG
import Derived.Test.YthdieeaegplnmaaBaseB
import Derived.Test.YthdieeaegplnmaaApp
namespace Go.Proofs.Ythdieeaegplnmaa.Gb
open Go.RowKit
open Go.Proofs.Ythdieeaegplnmaa.Num Go.Proofs.Ythdieeaegplnmaa.Mem Go.Proofs.Ythdieeaegplnmaa.Hsh Go.Proofs.Ythdieeaegplnmaa.Sls Go.Proofs.Ythdieeaegplnmaa.Own Go.Proofs.Ythdieeaegplnmaa.SS Go.Proofs.Ythdieeaegplnmaa.Bcn
set_option linter.unusedSimpArgs false
set_option linter.unusedVariables false
theorem in_ext {w : World} {lo hi n : Nat} {ss : List Sl} {xss : List (List Int)} {bs : List Int} (h : InSS w lo hi ss xss n) (h0 : xss.length = n) : InSS w lo hi ss (xss ++ [bs]) n :=
  ⟨fun i hi' => by
    have h1 := h.1 i hi'
    have e : (xss ++ [bs]).getD i [] = xss.getD i [] := by rw [List.getD_eq_getElem?_getD, List.getElem?_append_left (by omega), List.getD_eq_getElem?_getD]
    rw [e]; exact h1, h.2⟩
theorem keep_own {W w6 : World} {lo hi n c1 m c5 c6 : Nat} {A1 A5 A6 : Option Addr} {ss : List Sl} {xss : List (List Int)} {bs : List Int} (h0 : xss.length = n) (hl : ss.length = n) (HP : W.ownsRow lo 25 1 (.slice A1 n c1) n (ss.map sl)) (HI : InSS W lo hi ss xss n)
    (H5 : W.ownsRow hi 5 1 (.slice A5 m c5) m (bs.map (Value.int .u8))) (hlo : lo ≤ hi) (hg : W.grownBy w6 (blk A1)) (hown : w6.ownsRow lo 25 1 (.slice A6 (n + 1) c6) (n + 1) (ss.map sl ++ [.slice A5 m c5])) (hh : hi ≤ W.heap.size) : OwnSS w6 lo w6.heap.size A6 (n + 1) c6 (xss ++ [bs]) := by
  refine ⟨by simp [h0], ss ++ [(A5, m, c5)], by simp [hl], Own.of (by rw [List.map_append]; exact hown), ?_⟩
  have e : (xss ++ [bs]).getD n [] = bs := by rw [List.getD_eq_getElem?_getD, List.getElem?_append_right (by omega), h0, Nat.sub_self]; rfl
  have h1 := in_step (s := (A5, m, c5)) (in_ext (bs := bs) HI h0) hl (by rw [e]; exact Own.of H5) hlo hh
  exact (in_only h1 (Own.of HP) hg).wider (Nat.le_refl _) hg.size
theorem own_far {w : World} {base n b o : Nat} {e t : TypeId} {sz : Nat} {v : Value} {xs : List Value} {cs : Array Value} (h : w.ownsRow base e sz v n xs) (hb : Bk.Blk w b t cs) (ht : t ≠ e) (u : Value) : (w.setCell ⟨b, o, none⟩ u).ownsRow base e sz v n xs := by
  obtain ⟨h1, h2⟩ := h
  rcases h2 with h2 | ⟨g, cap, cur, hv, h3, h4, h5⟩
  · exact ⟨h1, .inl h2⟩
  · have hne : g ≠ b := by
      rintro rfl
      unfold Bk.Blk at hb
      rw [hb] at h4
      simp only [Option.some.injEq, Obj.cells.injEq] at h4
      exact ht h4.2.1
    exact ⟨h1, .inr ⟨g, cap, cur, hv, h3, (Below.heap_setCell w ⟨b, o, none⟩ u g hne).trans h4, h5⟩⟩
theorem ownSS_far {w : World} {lo hi n c b o : Nat} {t : TypeId} {A : Option Addr} {xss : List (List Int)} {cs : Array Value} (h : OwnSS w lo hi A n c xss) (hb : Bk.Blk w b t cs) (ht : t ≠ 25) (ht2 : t ≠ 5) (u : Value) : OwnSS (w.setCell ⟨b, o, none⟩ u) lo hi A n c xss := by
  obtain ⟨h0, ss, h1, h2, h3⟩ := h
  exact ⟨h0, ss, h1, ⟨own_far h2.1 hb ht u, h2.2⟩, ⟨fun i hi' => ⟨own_far (h3.1 i hi').1 hb ht2 u, (h3.1 i hi').2⟩, h3.2⟩⟩
theorem in_to {W w' : World} {o : Obj} {lo hi n : Nat} {ss : List Sl} {xss : List (List Int)} (h : InSS W lo hi ss xss n) (hW : W.alloc o = w') (hh : hi ≤ W.heap.size) : InSS w' lo hi ss xss n := hW ▸ h.keep fun g _ hg => Below.heap_alloc W o g (by omega)
theorem in_below {W w' : World} {lo hi n : Nat} {ss : List Sl} {xss : List (List Int)} (h : InSS W lo hi ss xss n) (hb : Below W.heap.size W w') (hh : hi ≤ W.heap.size) : InSS w' lo hi ss xss n := h.keep fun g _ hg => hb.block g (by omega)
theorem own_toA {W w' : World} {o : Obj} {base n : Nat} {e : TypeId} {sz : Nat} {v : Value} {xs : List Value} (h : W.ownsRow base e sz v n xs) (hW : W.alloc o = w') : w'.ownsRow base e sz v n xs := hW ▸ own_below h (Below.alloc (Below.refl _ _) (Nat.le_refl _) _)
theorem rd_oneA {W w' : World} {u : Value} {t : TypeId} (hW : W.alloc (.cells #[u] t) = w') : Rd w' 1 (some ⟨W.heap.size, 0, none⟩) 1 1 [u] := hW ▸ Rd.one W u t
theorem size_toA {W w' : World} {o : Obj} (hW : W.alloc o = w') : W.heap.size < w'.heap.size := by rw [← hW]; simp
theorem blk_grownA {w w' : World} {g : Nat} {t : TypeId} {cs : Array Value} {row : Option Nat} (hb : w.grownBy w' row) (hr : some g ≠ row) (h : Bk.Blk w g t cs) : Bk.Blk w' g t cs := (hb.block g h.lt (fun e => hr e)).trans h
theorem own_ne {w : World} {base n c b : Nat} {e t : TypeId} {sz : Nat} {A : Option Addr} {xs : List Value} {cs : Array Value} (h : w.ownsRow base e sz (.slice A n c) n xs) (hb : Bk.Blk w b t cs) (ht : t ≠ e) : some b ≠ blk A := by
  obtain ⟨h1, h2⟩ := h
  rcases h2 with ⟨hv, _⟩ | ⟨g, cap, cur, hv, h3, h4, h5⟩
  · simp only [Value.slice.injEq] at hv; rw [hv.1]; simp [blk]
  · simp only [Value.slice.injEq, true_and] at hv
    rw [hv.1]
    simp only [blk, Option.map_some, ne_eq, Option.some.injEq]
    rintro rfl
    unfold Bk.Blk at hb
    rw [hb] at h4
    simp only [Option.some.injEq, Obj.cells.injEq] at h4
    exact ht h4.2.1
theorem own_drewA {w : World} {base n : Nat} {e : TypeId} {sz : Nat} {v : Value} {xs : List Value} (h : w.ownsRow base e sz v n xs) : w.drew.ownsRow base e sz v n xs := h
theorem in_drewA {w : World} {lo hi n : Nat} {ss : List Sl} {xss : List (List Int)} (h : InSS w lo hi ss xss n) : InSS w.drew lo hi ss xss n := h
theorem own_lo {w : World} {base n c : Nat} {e : TypeId} {sz : Nat} {A : Option Addr} {xs : List Value} (h : w.ownsRow base e sz (.slice A n c) n xs) : ∀ q, blk A = some q → base ≤ q := fun q hq => (blk_of_own h q hq).1
theorem own_monoA {w : World} {base b2 n : Nat} {e : TypeId} {sz : Nat} {v : Value} {xs : List Value} (h : w.ownsRow base e sz v n xs) (hb : b2 ≤ base) : w.ownsRow b2 e sz v n xs := by
  obtain ⟨h1, h2⟩ := h
  rcases h2 with h2 | ⟨g, cap, cur, hv, h3, h4⟩
  · exact ⟨h1, .inl h2⟩
  · exact ⟨h1, .inr ⟨g, cap, cur, hv, Nat.le_trans hb h3, h4⟩⟩
theorem own_freshA {W w' : World} {lo sz : Nat} {e : TypeId} (hW : W.alloc (.cells #[] e) = w') (h : lo ≤ W.heap.size) : w'.ownsRow lo e sz (.slice (some ⟨W.heap.size, 0, none⟩) 0 0) 0 [] := hW ▸ own_empty W lo _ e sz rfl h
theorem own_grownK {w w' : World} {base b2 n m d : Nat} {e e' : TypeId} {sz sz' : Nat} {A B : Option Addr} {c k : Nat} {xs ys : List Value} (h : w.ownsRow base e sz (.slice A n c) k xs) (h' : w.ownsRow b2 e' sz' (.slice B m d) m ys) (hne : e ≠ e') (hg : w.grownBy w' (blk B)) : w'.ownsRow base e sz (.slice A n c) k xs := by
  obtain ⟨h1, h2⟩ := h
  rcases h2 with h2 | ⟨g, cap, cur, hv, h3, h4, h5⟩
  · exact ⟨h1, .inl h2⟩
  · refine ⟨h1, .inr ⟨g, cap, cur, hv, h3, ?_, h5⟩⟩
    refine (hg.block g (Array.getElem?_eq_some_iff.1 h4).1 ?_).trans h4
    intro hB
    rcases h'.2 with ⟨hv', _⟩ | ⟨g', cap', cur', hv', _, h4', _⟩
    · simp only [Value.slice.injEq] at hv'; rw [hv'.1] at hB; cases hB
    · simp only [Value.slice.injEq, true_and] at hv'
      rw [hv'.1] at hB
      simp only [blk, Option.map_some, Option.some.injEq] at hB
      subst hB
      rw [h4] at h4'
      simp only [Option.some.injEq, Obj.cells.injEq] at h4'
      exact hne h4'.2.1
theorem in_grownK {w w' : World} {lo hi n : Nat} {ss : List Sl} {xss : List (List Int)} {row : Option Nat} {b : Nat} (h : InSS w lo hi ss xss n) (hg : w.grownBy w' row) (hr : ∀ q, row = some q → b ≤ q) (hh : hi ≤ b ∧ hi ≤ w.heap.size) : InSS w' lo hi ss xss n := h.keep fun g _ hgh => hg.block g (by omega) (fun e => by have := hr g e.symm; omega)
theorem rdss_to {w w' : World} {A : Option Addr} {n c : Nat} {xss : List (List Int)} (h : RdSS w A n c xss) (hb : Below w.heap.size w w') : RdSS w' A n c xss := h.below hb
set_option maxRecDepth 100000 in
set_option maxHeartbeats 8000000 in
theorem keep_app_impl (pe lo : Int) (A : Option Addr) (n c : Nat) (xss : List (List Int)) (B' : Option Addr) (m d : Nat) (bs : List Int) (w : World) (hv : validG pe lo xss n) (h6 : n < 6) (h7 : m ≤ 100) (hr : RdSS w A n c xss) (hs : AllShort xss) (hbd : Rd w 1 B' m d (bs.map (Value.int .u8))) :
    Calls Try.prog 13 #[.agg #[.int .i64 pe, .slice A n c, .int .i64 lo], .slice B' m d] w (RetGb w pe lo (n + 1) (xss ++ [bs])) := by
  obtain ⟨ip, hip, hp0, hp1, hp2⟩ := info_parts ssInfo
  have HR := Lib.hid hr
  have HS := Lib.hid hs
  have HV := Lib.hid hv
  have HBD := Lib.hid hbd
  have HX := Lib.hid hr.1
  have B : Below w.heap.size w w := Below.refl _ _
  clear hr hs hv hbd
  go_enter Try.func13, Try.ntmps13
  go_wp2_with fail
  generalize hW : World.alloc _ _ = w1
  have bg : Bk.Blk w1 (w.heap.size) 27 #[.int .i64 pe, .slice A n c, .int .i64 lo] := (by rw [← hW]; apply Bk.Blk.to; (focus (exact Bk.sv)); rfl)
  have br : Bk.Blk w1 (w.heap.size + 1) 27 #[.int .i64 0, .slice none 0 0, .int .i64 0] := (by rw [← hW]; apply Bk.Blk.to; (focus (exact Bk.sv)); rfl)
  replace B : Below w.heap.size w w1 := (by rw [← hW]; go_grown)
  have z1 : w1.heap.size = _ := congrArg (fun W : World => W.heap.size) hW.symm
  (try simp only [World.size_alloc, Bk.size_set, World.size_drew, World.drewN] at z1)
  clear hW
  refine (copyGb_any pe lo A n c xss _ (HR.out.below B) (by omega) HS.out).mono ?_
  rintro x w2 ⟨A1, c1, rfl, hown, hb0⟩
  have HO := Lib.hid hown
  replace bg : Bk.Blk w2 (w.heap.size) 27 #[.int .i64 pe, .slice A n c, .int .i64 lo] := Bk.Blk.under hb0 (by exact Bk.sv)
  replace br : Bk.Blk w2 (w.heap.size + 1) 27 #[.int .i64 0, .slice none 0 0, .int .i64 0] := Bk.Blk.under hb0 (by exact Bk.sv)
  replace B : Below w.heap.size w w2 := Below.trans (by go_grown) (hb0.mono (by first | omega | (simp [Bk.size_set]; done) | (simp [Bk.size_set]; omega)))
  have z2 := hb0.size
  (try simp only [World.size_alloc, Bk.size_set, World.size_drew, World.drewN] at z2)
  clear hb0
  clear hown
  have L_bg := Lay.f3 bg
  have L_br := Lay.f3 br
  go_wp2_with fail
  clear L_bg L_br
  refine (validGb_impl pe lo A n c xss _ ((HR.out.below B).alloc _)).mono ?_
  rintro x w3 hsay
  replace hsay := says_true hsay HV.out
  obtain ⟨rfl, hb0⟩ := hsay
  have bo : Bk.Blk w3 (w2.heap.size) 27 #[.int .i64 pe, .slice A1 n c1, .int .i64 lo] := (by apply Bk.Blk.to; (focus (apply Bk.Blk.under hb0; exact Bk.sv)); rfl)
  replace bg : Bk.Blk w3 (w.heap.size) 27 #[.int .i64 pe, .slice A n c, .int .i64 lo] := Bk.Blk.under hb0 (by exact Bk.sv)
  replace br : Bk.Blk w3 (w.heap.size + 1) 27 #[.int .i64 0, .slice none 0 0, .int .i64 0] := Bk.Blk.under hb0 (by exact Bk.sv)
  have HO3 := Lib.hid ((HO.out.below (show Below w2.heap.size w2 _ from by go_grown) (Nat.le_refl _)).below hb0 (by simp))
  replace B : Below w.heap.size w w3 := Below.trans (by go_grown) (hb0.mono (by first | omega | (simp [Bk.size_set]; done) | (simp [Bk.size_set]; omega)))
  have z3 := hb0.size
  (try simp only [World.size_alloc, Bk.size_set, World.size_drew, World.drewN] at z3)
  clear hb0
  clear HO
  obtain ⟨_, ss, hls, hpo, hin⟩ := HO3.out
  have HP := hpo.1
  have HL := Lib.hid hls
  have HI := hin
  clear hpo hin hls HO3
  have d0 : ((n : Int) == 6) = false := by simpa using (show (n : Int) ≠ 6 by omega)
  have L_bg := Lay.f3 bg
  have L_br := Lay.f3 br
  have L_bo := Lay.f3 bo
  go_wp2_with fail
  clear L_bg L_br L_bo
  have L_bo := Lay.f3 bo
  refine wp_region_held_drew (S := (fun _ => True)) (by kernel_rfl) ?_ (fun hHeld => ?_)
  · (try dsimp only); skip
  first | refine Reg.tkA 0 (Reg.get rfl) hHeld ?_ | refine Reg.tkB 0 (Reg.get rfl) hHeld ?_
  try simp only [Act.put, List.setIfInBounds_toArray, List.set_cons_zero, List.set_cons_succ]
  first | refine Reg.tkA 2 (Reg.get rfl) hHeld ?_ | refine Reg.tkB 2 (Reg.get rfl) hHeld ?_
  try simp only [Act.put, List.setIfInBounds_toArray, List.set_cons_zero, List.set_cons_succ]
  refine wpAnyH_ready (rs := [1, 3]) (by kernel_rfl) (by simp) ?_
  refine (AllReadyH.cons (Reg.get rfl) (fun K hK => ?_) (AllReadyH.cons (Reg.get rfl) (fun K hK => ?_) AllReadyH.nil))
  
  · skip
    clear hHeld; go_simp; (skip); refine hK.out _ _ ?_ (fun hHeld => ?_); ((try dsimp only); skip); clear hK K
    try simp only [Act.put, List.setIfInBounds_toArray, List.set_cons_zero, List.set_cons_succ]
    first | ((refine Reg.tkB 3 (Reg.get rfl) hHeld ?_)) | (refine wpAnyH_ready (rs := [3]) (by kernel_rfl) (by simp) ?_; refine AllReadyH.cons (Reg.get rfl) (fun K hK => ?_) AllReadyH.nil; clear hHeld; go_simp; ((go_at_call 61; refine (copyB_any B' m d bs _ (by first | exact HBD.out.below B | exact (HBD.out.below B).drew) (by omega)).mono ?_; rintro x w4 ⟨A5, c5, rfl, ho5, hb0⟩; (first | replace HP := own_below HP hb0 | replace HP := own_below (own_drewA HP) hb0); (first | replace HI := in_below HI hb0 (by first | omega | (simp; done) | (simp; omega)) | replace HI := in_below (in_drewA HI) hb0 (by first | omega | (simp; done) | (simp; omega))); have H5 := own_monoA ho5 (show w2.heap.size ≤ _ from (by first | omega | (simp; done) | (simp; omega))); clear ho5; clear L_bo; replace br : Bk.Blk w4 (w.heap.size + 1) 27 #[.int .i64 0, .slice none 0 0, .int .i64 0] := Bk.Blk.under hb0 (by exact Bk.sv); replace bo : Bk.Blk w4 (w2.heap.size) 27 #[.int .i64 pe, .slice A1 n c1, .int .i64 lo] := Bk.Blk.under hb0 (by exact Bk.sv); replace B : Below w.heap.size w w4 := Below.trans (by go_grown) (hb0.mono (by first | omega | (simp [Bk.size_set]; done) | (simp [Bk.size_set]; omega))); have z4 := hb0.size; (try simp only [World.size_alloc, Bk.size_set, World.size_drew, World.drewN] at z4); clear hb0; have L_bo := Lay.f3 bo)); refine hK.out _ _ ?_ (fun hHeld => ?_); ((try dsimp only); skip); clear hK K)
    try simp only [Act.put, List.setIfInBounds_toArray, List.set_cons_zero, List.set_cons_succ]
    first | ((refine Reg.tkB 4 (Reg.get rfl) hHeld ?_)) | (refine wpAnyH_ready (rs := [4]) (by kernel_rfl) (by simp) ?_; refine AllReadyH.cons (Reg.get rfl) (fun K hK => ?_) AllReadyH.nil; clear hHeld; go_simp; ((generalize hW : World.alloc _ _ = w5; (first | replace HP := own_toA HP hW | replace HP := own_toA (own_drewA HP) hW); (first | replace HI := in_to HI hW (by first | omega | (simp; done) | (simp; omega)) | replace HI := in_to (in_drewA HI) hW (by first | omega | (simp; done) | (simp; omega))); (first | replace H5 := own_toA H5 hW | replace H5 := own_toA (own_drewA H5) hW); have re := rd_oneA hW; have z5 := size_toA hW; (try simp only [World.size_drew] at z5); have hx5 : True := trivial; clear L_bo; replace br : Bk.Blk w5 (w.heap.size + 1) 27 #[.int .i64 0, .slice none 0 0, .int .i64 0] := (by rw [← hW]; exact Bk.sv); replace bo : Bk.Blk w5 (w2.heap.size) 27 #[.int .i64 pe, .slice A1 n c1, .int .i64 lo] := (by rw [← hW]; exact Bk.sv); replace B : Below w.heap.size w w5 := (by rw [← hW]; go_grown); clear hW; have L_bo := Lay.f3 bo)); refine hK.out _ _ ?_ (fun hHeld => ?_); ((try dsimp only); skip); clear hK K)
    try simp only [Act.put, List.setIfInBounds_toArray, List.set_cons_zero, List.set_cons_succ]
    first | ((refine Reg.tkB 5 (Reg.get rfl) hHeld ?_)) | (refine wpAnyH_ready (rs := [5]) (by kernel_rfl) (by simp) ?_; refine AllReadyH.cons (Reg.get rfl) (fun K hK => ?_) AllReadyH.nil; clear hHeld; ((refine App.wp_app _ _ _ 22 rfl w1.heap.size 25 ip (.slice none 0 0) 1 24 Try.underlying22 hip hp0 hp1 hp2 rfl (by decide) _ _ _ _ rfl (by first | exact HP | exact own_drewA HP) _ 1 1 [.slice A5 m c5] rfl (by first | exact re | exact re.drew) (fun u hu => by simp at hu; subst hu; rfl) (by unfold maxLen; omega) (by omega) (by first | omega | (simp; done) | (simp; omega)) ?_; intro A6 c6 w6 own6 hg0 _; (first | have HS := keep_own HX.out HL.out HP HI H5 (by omega) hg0 own6 (by first | omega | (simp; done) | (simp; omega)) | have HS := keep_own HX.out HL.out (own_drewA HP) (in_drewA HI) (own_drewA H5) (by omega) hg0 own6 (by first | omega | (simp; done) | (simp; omega))); have hP := own_lo HP; replace bo : Bk.Blk w6 (w2.heap.size) 27 #[.int .i64 pe, .slice A1 n c1, .int .i64 lo] := blk_grownA hg0 (own_ne HP bo (by decide)) (by exact Bk.sv); replace br : Bk.Blk w6 (w.heap.size + 1) 27 #[.int .i64 0, .slice none 0 0, .int .i64 0] := blk_grownA hg0 (own_ne HP br (by decide)) (by exact Bk.sv); replace B : Below w.heap.size w w6 := Mem.below_app (by go_grown) hg0 (by first | omega | (simp; done) | (simp; omega)) (by intro q h; have := hP _ h; omega); have z6 := hg0.size; (try simp only [World.size_drew] at z6); clear hg0 own6 hP HI H5 re HP L_bo; have L_bo := Lay.f3 bo)); refine hK.out _ _ ?_ (fun hHeld => ?_); ((try dsimp only); skip); clear hK K)
    try simp only [Act.put, List.setIfInBounds_toArray, List.set_cons_zero, List.set_cons_succ]
    first | refine Reg.tkA 6 (Reg.get rfl) hHeld ?_ | refine Reg.tkB 6 (Reg.get rfl) hHeld ?_
    try simp only [Act.put, List.setIfInBounds_toArray, List.set_cons_zero, List.set_cons_succ]
    first | ((refine Reg.tkB 7 (Reg.get rfl) hHeld ?_)) | (refine wpAnyH_ready (rs := [7]) (by kernel_rfl) (by simp) ?_; refine AllReadyH.cons (Reg.get rfl) (fun K hK => ?_) AllReadyH.nil; clear hHeld; go_simp; (skip); refine hK.out _ _ ?_ (fun hHeld => ?_); ((try dsimp only); skip); clear hK K)
    try simp only [Act.put, List.setIfInBounds_toArray, List.set_cons_zero, List.set_cons_succ]
    refine wpAnyH_done (by kernel_rfl) ?_ _
    clear L_bo
    generalize hW : World.setCell _ _ _ = w7
    have HS7 := Lib.hid (show OwnSS w7 w1.heap.size w6.heap.size A6 (n + 1) c6 (xss ++ [bs]) from by rw [← hW]; exact ownSS_far HS bo (by decide) (by decide) _)
    replace bo : Bk.Blk w7 (w2.heap.size) 27 #[.int .i64 pe, .slice A6 (n + 1) c6, .int .i64 lo] := (by rw [← hW]; apply Bk.Blk.to; (focus (exact Bk.sv)); rfl)
    replace br : Bk.Blk w7 (w.heap.size + 1) 27 #[.int .i64 0, .slice none 0 0, .int .i64 0] := (by rw [← hW]; exact Bk.sv)
    replace B : Below w.heap.size w w7 := (by rw [← hW]; go_grown)
    have z7 : w7.heap.size = _ := congrArg (fun W : World => W.heap.size) hW.symm
    (try simp only [World.size_alloc, Bk.size_set, World.size_drew, World.drewN] at z7)
    clear hW
    clear HS
    have L_br := Lay.f3 br
    have L_bo := Lay.f3 bo
    go_wp2
    clear L_br L_bo
    generalize hW : World.setCell _ _ _ = w8
    have HS8 := Lib.hid (show OwnSS w8 w1.heap.size w6.heap.size A6 (n + 1) c6 (xss ++ [bs]) from by rw [← hW]; exact own_set3 HS7.out (by omega) _ _ _)
    replace br : Bk.Blk w8 (w.heap.size + 1) 27 #[.int .i64 pe, .slice A6 (n + 1) c6, .int .i64 lo] := (by rw [← hW]; apply Bk.Blk.to; (focus (exact Bk.sv)); rfl)
    replace B : Below w.heap.size w w8 := (by rw [← hW]; go_grown)
    have z8 : w8.heap.size = _ := congrArg (fun W : World => W.heap.size) hW.symm
    (try simp only [World.size_alloc, Bk.size_set, World.size_drew, World.drewN] at z8)
    clear hW
    have L_br := Lay.c3 br
    refine bodyPost_ret (v := .agg #[.int .i64 pe, .slice A6 (n + 1) c6, .int .i64 lo]) (by simp [results, Try.results13, go_sem, L_br]) rfl (⟨A6, c6, rfl, HS8.out.wider (by omega) (by omega), B⟩)
  
  · skip
    clear hHeld; go_simp; ((go_at_call 61; refine (copyB_any B' m d bs _ (by first | exact HBD.out.below B | exact (HBD.out.below B).drew) (by omega)).mono ?_; rintro x w4 ⟨A5, c5, rfl, ho5, hb0⟩; (first | replace HP := own_below HP hb0 | replace HP := own_below (own_drewA HP) hb0); (first | replace HI := in_below HI hb0 (by first | omega | (simp; done) | (simp; omega)) | replace HI := in_below (in_drewA HI) hb0 (by first | omega | (simp; done) | (simp; omega))); have H5 := own_monoA ho5 (show w2.heap.size ≤ _ from (by first | omega | (simp; done) | (simp; omega))); clear ho5; clear L_bo; replace br : Bk.Blk w4 (w.heap.size + 1) 27 #[.int .i64 0, .slice none 0 0, .int .i64 0] := Bk.Blk.under hb0 (by exact Bk.sv); replace bo : Bk.Blk w4 (w2.heap.size) 27 #[.int .i64 pe, .slice A1 n c1, .int .i64 lo] := Bk.Blk.under hb0 (by exact Bk.sv); replace B : Below w.heap.size w w4 := Below.trans (by go_grown) (hb0.mono (by first | omega | (simp [Bk.size_set]; done) | (simp [Bk.size_set]; omega))); have z4 := hb0.size; (try simp only [World.size_alloc, Bk.size_set, World.size_drew, World.drewN] at z4); clear hb0; have L_bo := Lay.f3 bo)); refine hK.out _ _ ?_ (fun hHeld => ?_); ((try dsimp only); skip); clear hK K
    try simp only [Act.put, List.setIfInBounds_toArray, List.set_cons_zero, List.set_cons_succ]
    refine wpAnyH_ready (rs := [1, 4]) (by kernel_rfl) (by simp) ?_
    refine (AllReadyH.cons (Reg.get rfl) (fun K hK => ?_) (AllReadyH.cons (Reg.get rfl) (fun K hK => ?_) AllReadyH.nil))
  
    · skip
      clear hHeld; go_simp; (skip); refine hK.out _ _ ?_ (fun hHeld => ?_); ((try dsimp only); skip); clear hK K
      try simp only [Act.put, List.setIfInBounds_toArray, List.set_cons_zero, List.set_cons_succ]
      first | ((refine Reg.tkB 4 (Reg.get rfl) hHeld ?_)) | (refine wpAnyH_ready (rs := [4]) (by kernel_rfl) (by simp) ?_; refine AllReadyH.cons (Reg.get rfl) (fun K hK => ?_) AllReadyH.nil; clear hHeld; go_simp; ((generalize hW : World.alloc _ _ = w5; (first | replace HP := own_toA HP hW | replace HP := own_toA (own_drewA HP) hW); (first | replace HI := in_to HI hW (by first | omega | (simp; done) | (simp; omega)) | replace HI := in_to (in_drewA HI) hW (by first | omega | (simp; done) | (simp; omega))); (first | replace H5 := own_toA H5 hW | replace H5 := own_toA (own_drewA H5) hW); have re := rd_oneA hW; have z5 := size_toA hW; (try simp only [World.size_drew] at z5); have hx5 : True := trivial; clear L_bo; replace br : Bk.Blk w5 (w.heap.size + 1) 27 #[.int .i64 0, .slice none 0 0, .int .i64 0] := (by rw [← hW]; exact Bk.sv); replace bo : Bk.Blk w5 (w2.heap.size) 27 #[.int .i64 pe, .slice A1 n c1, .int .i64 lo] := (by rw [← hW]; exact Bk.sv); replace B : Below w.heap.size w w5 := (by rw [← hW]; go_grown); clear hW; have L_bo := Lay.f3 bo)); refine hK.out _ _ ?_ (fun hHeld => ?_); ((try dsimp only); skip); clear hK K)
      try simp only [Act.put, List.setIfInBounds_toArray, List.set_cons_zero, List.set_cons_succ]
      first | ((refine Reg.tkB 5 (Reg.get rfl) hHeld ?_)) | (refine wpAnyH_ready (rs := [5]) (by kernel_rfl) (by simp) ?_; refine AllReadyH.cons (Reg.get rfl) (fun K hK => ?_) AllReadyH.nil; clear hHeld; ((refine App.wp_app _ _ _ 22 rfl w1.heap.size 25 ip (.slice none 0 0) 1 24 Try.underlying22 hip hp0 hp1 hp2 rfl (by decide) _ _ _ _ rfl (by first | exact HP | exact own_drewA HP) _ 1 1 [.slice A5 m c5] rfl (by first | exact re | exact re.drew) (fun u hu => by simp at hu; subst hu; rfl) (by unfold maxLen; omega) (by omega) (by first | omega | (simp; done) | (simp; omega)) ?_; intro A6 c6 w6 own6 hg0 _; (first | have HS := keep_own HX.out HL.out HP HI H5 (by omega) hg0 own6 (by first | omega | (simp; done) | (simp; omega)) | have HS := keep_own HX.out HL.out (own_drewA HP) (in_drewA HI) (own_drewA H5) (by omega) hg0 own6 (by first | omega | (simp; done) | (simp; omega))); have hP := own_lo HP; replace bo : Bk.Blk w6 (w2.heap.size) 27 #[.int .i64 pe, .slice A1 n c1, .int .i64 lo] := blk_grownA hg0 (own_ne HP bo (by decide)) (by exact Bk.sv); replace br : Bk.Blk w6 (w.heap.size + 1) 27 #[.int .i64 0, .slice none 0 0, .int .i64 0] := blk_grownA hg0 (own_ne HP br (by decide)) (by exact Bk.sv); replace B : Below w.heap.size w w6 := Mem.below_app (by go_grown) hg0 (by first | omega | (simp; done) | (simp; omega)) (by intro q h; have := hP _ h; omega); have z6 := hg0.size; (try simp only [World.size_drew] at z6); clear hg0 own6 hP HI H5 re HP L_bo; have L_bo := Lay.f3 bo)); refine hK.out _ _ ?_ (fun hHeld => ?_); ((try dsimp only); skip); clear hK K)
      try simp only [Act.put, List.setIfInBounds_toArray, List.set_cons_zero, List.set_cons_succ]
      first | refine Reg.tkA 6 (Reg.get rfl) hHeld ?_ | refine Reg.tkB 6 (Reg.get rfl) hHeld ?_
      try simp only [Act.put, List.setIfInBounds_toArray, List.set_cons_zero, List.set_cons_succ]
      first | ((refine Reg.tkB 7 (Reg.get rfl) hHeld ?_)) | (refine wpAnyH_ready (rs := [7]) (by kernel_rfl) (by simp) ?_; refine AllReadyH.cons (Reg.get rfl) (fun K hK => ?_) AllReadyH.nil; clear hHeld; go_simp; (skip); refine hK.out _ _ ?_ (fun hHeld => ?_); ((try dsimp only); skip); clear hK K)
      try simp only [Act.put, List.setIfInBounds_toArray, List.set_cons_zero, List.set_cons_succ]
      refine wpAnyH_done (by kernel_rfl) ?_ _
      clear L_bo
      generalize hW : World.setCell _ _ _ = w7
      have HS7 := Lib.hid (show OwnSS w7 w1.heap.size w6.heap.size A6 (n + 1) c6 (xss ++ [bs]) from by rw [← hW]; exact ownSS_far HS bo (by decide) (by decide) _)
      replace bo : Bk.Blk w7 (w2.heap.size) 27 #[.int .i64 pe, .slice A6 (n + 1) c6, .int .i64 lo] := (by rw [← hW]; apply Bk.Blk.to; (focus (exact Bk.sv)); rfl)
      replace br : Bk.Blk w7 (w.heap.size + 1) 27 #[.int .i64 0, .slice none 0 0, .int .i64 0] := (by rw [← hW]; exact Bk.sv)
      replace B : Below w.heap.size w w7 := (by rw [← hW]; go_grown)
      have z7 : w7.heap.size = _ := congrArg (fun W : World => W.heap.size) hW.symm
      (try simp only [World.size_alloc, Bk.size_set, World.size_drew, World.drewN] at z7)
      clear hW
      clear HS
      have L_br := Lay.f3 br
      have L_bo := Lay.f3 bo
      go_wp2
      clear L_br L_bo
      generalize hW : World.setCell _ _ _ = w8
      have HS8 := Lib.hid (show OwnSS w8 w1.heap.size w6.heap.size A6 (n + 1) c6 (xss ++ [bs]) from by rw [← hW]; exact own_set3 HS7.out (by omega) _ _ _)
      replace br : Bk.Blk w8 (w.heap.size + 1) 27 #[.int .i64 pe, .slice A6 (n + 1) c6, .int .i64 lo] := (by rw [← hW]; apply Bk.Blk.to; (focus (exact Bk.sv)); rfl)
      replace B : Below w.heap.size w w8 := (by rw [← hW]; go_grown)
      have z8 : w8.heap.size = _ := congrArg (fun W : World => W.heap.size) hW.symm
      (try simp only [World.size_alloc, Bk.size_set, World.size_drew, World.drewN] at z8)
      clear hW
      have L_br := Lay.c3 br
      refine bodyPost_ret (v := .agg #[.int .i64 pe, .slice A6 (n + 1) c6, .int .i64 lo]) (by simp [results, Try.results13, go_sem, L_br]) rfl (⟨A6, c6, rfl, HS8.out.wider (by omega) (by omega), B⟩)
  
    · skip
      clear hHeld; go_simp; ((generalize hW : World.alloc _ _ = w5; (first | replace HP := own_toA HP hW | replace HP := own_toA (own_drewA HP) hW); (first | replace HI := in_to HI hW (by first | omega | (simp; done) | (simp; omega)) | replace HI := in_to (in_drewA HI) hW (by first | omega | (simp; done) | (simp; omega))); (first | replace H5 := own_toA H5 hW | replace H5 := own_toA (own_drewA H5) hW); have re := rd_oneA hW; have z5 := size_toA hW; (try simp only [World.size_drew] at z5); have hx5 : True := trivial; clear L_bo; replace br : Bk.Blk w5 (w.heap.size + 1) 27 #[.int .i64 0, .slice none 0 0, .int .i64 0] := (by rw [← hW]; exact Bk.sv); replace bo : Bk.Blk w5 (w2.heap.size) 27 #[.int .i64 pe, .slice A1 n c1, .int .i64 lo] := (by rw [← hW]; exact Bk.sv); replace B : Below w.heap.size w w5 := (by rw [← hW]; go_grown); clear hW; have L_bo := Lay.f3 bo)); refine hK.out _ _ ?_ (fun hHeld => ?_); ((try dsimp only); skip); clear hK K
      try simp only [Act.put, List.setIfInBounds_toArray, List.set_cons_zero, List.set_cons_succ]
      first | ((refine Reg.tkB 1 (Reg.get rfl) hHeld ?_)) | (refine wpAnyH_ready (rs := [1]) (by kernel_rfl) (by simp) ?_; refine AllReadyH.cons (Reg.get rfl) (fun K hK => ?_) AllReadyH.nil; clear hHeld; go_simp; (skip); refine hK.out _ _ ?_ (fun hHeld => ?_); ((try dsimp only); skip); clear hK K)
      try simp only [Act.put, List.setIfInBounds_toArray, List.set_cons_zero, List.set_cons_succ]
      first | ((refine Reg.tkB 5 (Reg.get rfl) hHeld ?_)) | (refine wpAnyH_ready (rs := [5]) (by kernel_rfl) (by simp) ?_; refine AllReadyH.cons (Reg.get rfl) (fun K hK => ?_) AllReadyH.nil; clear hHeld; ((refine App.wp_app _ _ _ 22 rfl w1.heap.size 25 ip (.slice none 0 0) 1 24 Try.underlying22 hip hp0 hp1 hp2 rfl (by decide) _ _ _ _ rfl (by first | exact HP | exact own_drewA HP) _ 1 1 [.slice A5 m c5] rfl (by first | exact re | exact re.drew) (fun u hu => by simp at hu; subst hu; rfl) (by unfold maxLen; omega) (by omega) (by first | omega | (simp; done) | (simp; omega)) ?_; intro A6 c6 w6 own6 hg0 _; (first | have HS := keep_own HX.out HL.out HP HI H5 (by omega) hg0 own6 (by first | omega | (simp; done) | (simp; omega)) | have HS := keep_own HX.out HL.out (own_drewA HP) (in_drewA HI) (own_drewA H5) (by omega) hg0 own6 (by first | omega | (simp; done) | (simp; omega))); have hP := own_lo HP; replace bo : Bk.Blk w6 (w2.heap.size) 27 #[.int .i64 pe, .slice A1 n c1, .int .i64 lo] := blk_grownA hg0 (own_ne HP bo (by decide)) (by exact Bk.sv); replace br : Bk.Blk w6 (w.heap.size + 1) 27 #[.int .i64 0, .slice none 0 0, .int .i64 0] := blk_grownA hg0 (own_ne HP br (by decide)) (by exact Bk.sv); replace B : Below w.heap.size w w6 := Mem.below_app (by go_grown) hg0 (by first | omega | (simp; done) | (simp; omega)) (by intro q h; have := hP _ h; omega); have z6 := hg0.size; (try simp only [World.size_drew] at z6); clear hg0 own6 hP HI H5 re HP L_bo; have L_bo := Lay.f3 bo)); refine hK.out _ _ ?_ (fun hHeld => ?_); ((try dsimp only); skip); clear hK K)
      try simp only [Act.put, List.setIfInBounds_toArray, List.set_cons_zero, List.set_cons_succ]
      first | refine Reg.tkA 6 (Reg.get rfl) hHeld ?_ | refine Reg.tkB 6 (Reg.get rfl) hHeld ?_
      try simp only [Act.put, List.setIfInBounds_toArray, List.set_cons_zero, List.set_cons_succ]
      first | ((refine Reg.tkB 7 (Reg.get rfl) hHeld ?_)) | (refine wpAnyH_ready (rs := [7]) (by kernel_rfl) (by simp) ?_; refine AllReadyH.cons (Reg.get rfl) (fun K hK => ?_) AllReadyH.nil; clear hHeld; go_simp; (skip); refine hK.out _ _ ?_ (fun hHeld => ?_); ((try dsimp only); skip); clear hK K)
      try simp only [Act.put, List.setIfInBounds_toArray, List.set_cons_zero, List.set_cons_succ]
      refine wpAnyH_done (by kernel_rfl) ?_ _
      clear L_bo
      generalize hW : World.setCell _ _ _ = w7
      have HS7 := Lib.hid (show OwnSS w7 w1.heap.size w6.heap.size A6 (n + 1) c6 (xss ++ [bs]) from by rw [← hW]; exact ownSS_far HS bo (by decide) (by decide) _)
      replace bo : Bk.Blk w7 (w2.heap.size) 27 #[.int .i64 pe, .slice A6 (n + 1) c6, .int .i64 lo] := (by rw [← hW]; apply Bk.Blk.to; (focus (exact Bk.sv)); rfl)
      replace br : Bk.Blk w7 (w.heap.size + 1) 27 #[.int .i64 0, .slice none 0 0, .int .i64 0] := (by rw [← hW]; exact Bk.sv)
      replace B : Below w.heap.size w w7 := (by rw [← hW]; go_grown)
      have z7 : w7.heap.size = _ := congrArg (fun W : World => W.heap.size) hW.symm
      (try simp only [World.size_alloc, Bk.size_set, World.size_drew, World.drewN] at z7)
      clear hW
      clear HS
      have L_br := Lay.f3 br
      have L_bo := Lay.f3 bo
      go_wp2
      clear L_br L_bo
      generalize hW : World.setCell _ _ _ = w8
      have HS8 := Lib.hid (show OwnSS w8 w1.heap.size w6.heap.size A6 (n + 1) c6 (xss ++ [bs]) from by rw [← hW]; exact own_set3 HS7.out (by omega) _ _ _)
      replace br : Bk.Blk w8 (w.heap.size + 1) 27 #[.int .i64 pe, .slice A6 (n + 1) c6, .int .i64 lo] := (by rw [← hW]; apply Bk.Blk.to; (focus (exact Bk.sv)); rfl)
      replace B : Below w.heap.size w w8 := (by rw [← hW]; go_grown)
      have z8 : w8.heap.size = _ := congrArg (fun W : World => W.heap.size) hW.symm
      (try simp only [World.size_alloc, Bk.size_set, World.size_drew, World.drewN] at z8)
      clear hW
      have L_br := Lay.c3 br
      refine bodyPost_ret (v := .agg #[.int .i64 pe, .slice A6 (n + 1) c6, .int .i64 lo]) (by simp [results, Try.results13, go_sem, L_br]) rfl (⟨A6, c6, rfl, HS8.out.wider (by omega) (by omega), B⟩)
set_option maxRecDepth 100000 in
set_option maxHeartbeats 8000000 in
theorem keep_app_spec (pe lo : Int) (A : Option Addr) (n c : Nat) (xss : List (List Int)) (B' : Option Addr) (m d : Nat) (bs : List Int) (w : World) (hv : validG pe lo xss n) (h6 : n < 6) (h7 : m ≤ 100) (hr : RdSS w A n c xss) (hs : AllShort xss) (hbd : Rd w 1 B' m d (bs.map (Value.int .u8))) :
    Calls Try.prog 10 #[.agg #[.int .i64 pe, .slice A n c, .int .i64 lo], .slice B' m d] w (RetGb w pe lo (n + 1) (xss ++ [bs])) := by
  obtain ⟨ip, hip, hp0, hp1, hp2⟩ := info_parts ssInfo
  obtain ⟨iu, hiu, hu0, hu1, hu2⟩ := info_parts uInfo
  have HR := Lib.hid hr
  have HS := Lib.hid hs
  have HV := Lib.hid hv
  have HBD := Lib.hid hbd
  have HX := Lib.hid hr.1
  have B : Below w.heap.size w w := Below.refl _ _
  clear hr hs hv hbd
  go_enter Try.func10, Try.ntmps10
  go_wp2_with fail
  generalize hW : World.alloc _ _ = w1
  have bg : Bk.Blk w1 (w.heap.size) 27 #[.int .i64 pe, .slice A n c, .int .i64 lo] := (by rw [← hW]; apply Bk.Blk.to; (focus (exact Bk.sv)); rfl)
  have br : Bk.Blk w1 (w.heap.size + 1) 27 #[.int .i64 0, .slice none 0 0, .int .i64 0] := (by rw [← hW]; apply Bk.Blk.to; (focus (exact Bk.sv)); rfl)
  replace B : Below w.heap.size w w1 := (by rw [← hW]; go_grown)
  have z1 : w1.heap.size = _ := congrArg (fun W : World => W.heap.size) hW.symm
  (try simp only [World.size_alloc, Bk.size_set, World.size_drew, World.drewN] at z1)
  clear hW
  refine (copyGb_spec pe lo A n c xss _ (HR.out.below B) (by omega) HS.out).mono ?_
  rintro x w2 ⟨A1, c1, rfl, hown, hb0⟩
  have HO := Lib.hid hown
  replace bg : Bk.Blk w2 (w.heap.size) 27 #[.int .i64 pe, .slice A n c, .int .i64 lo] := Bk.Blk.under hb0 (by exact Bk.sv)
  replace br : Bk.Blk w2 (w.heap.size + 1) 27 #[.int .i64 0, .slice none 0 0, .int .i64 0] := Bk.Blk.under hb0 (by exact Bk.sv)
  replace B : Below w.heap.size w w2 := Below.trans (by go_grown) (hb0.mono (by first | omega | (simp [Bk.size_set]; done) | (simp [Bk.size_set]; omega)))
  have z2 := hb0.size
  (try simp only [World.size_alloc, Bk.size_set, World.size_drew, World.drewN] at z2)
  clear hb0
  clear hown
  have L_bg := Lay.f3 bg
  have L_br := Lay.f3 br
  go_wp2_with fail
  clear L_bg L_br
  refine (validGb_spec pe lo A n c xss _ ((HR.out.below B).alloc _)).mono ?_
  rintro x w3 hsay
  replace hsay := says_true hsay HV.out
  obtain ⟨rfl, hb0⟩ := hsay
  have bo : Bk.Blk w3 (w2.heap.size) 27 #[.int .i64 pe, .slice A1 n c1, .int .i64 lo] := (by apply Bk.Blk.to; (focus (apply Bk.Blk.under hb0; exact Bk.sv)); rfl)
  replace bg : Bk.Blk w3 (w.heap.size) 27 #[.int .i64 pe, .slice A n c, .int .i64 lo] := Bk.Blk.under hb0 (by exact Bk.sv)
  replace br : Bk.Blk w3 (w.heap.size + 1) 27 #[.int .i64 0, .slice none 0 0, .int .i64 0] := Bk.Blk.under hb0 (by exact Bk.sv)
  have HO3 := Lib.hid ((HO.out.below (show Below w2.heap.size w2 _ from by go_grown) (Nat.le_refl _)).below hb0 (by simp))
  replace B : Below w.heap.size w w3 := Below.trans (by go_grown) (hb0.mono (by first | omega | (simp [Bk.size_set]; done) | (simp [Bk.size_set]; omega)))
  have z3 := hb0.size
  (try simp only [World.size_alloc, Bk.size_set, World.size_drew, World.drewN] at z3)
  clear hb0
  clear HO
  obtain ⟨_, ss, hls, hpo, hin⟩ := HO3.out
  have HP := hpo.1
  have HL := Lib.hid hls
  have HI := hin
  clear hpo hin hls HO3
  have d2 : ¬ (6 : Int) ≤ (n : Int) := by omega
  have d0 : ((n : Int) == 6) = false := by simpa using (show (n : Int) ≠ 6 by omega)
  have L_bg := Lay.f3 bg
  have L_br := Lay.f3 br
  have L_bo := Lay.f3 bo
  go_wp2_with fail
  clear L_bg L_br L_bo
  have L_bo := Lay.f3 bo
  refine wp_region_held_drew (S := (fun _ => True)) (by kernel_rfl) ?_ (fun hHeld => ?_)
  · (try dsimp only); skip
  first | refine Reg.tkA 0 (Reg.get rfl) hHeld ?_ | refine Reg.tkB 0 (Reg.get rfl) hHeld ?_
  try simp only [Act.put, List.setIfInBounds_toArray, List.set_cons_zero, List.set_cons_succ]
  first | refine Reg.tkA 3 (Reg.get rfl) hHeld ?_ | refine Reg.tkB 3 (Reg.get rfl) hHeld ?_
  try simp only [Act.put, List.setIfInBounds_toArray, List.set_cons_zero, List.set_cons_succ]
  refine wpAnyH_ready (rs := [1, 2]) (by kernel_rfl) (by simp) ?_
  refine (AllReadyH.cons (Reg.get rfl) (fun K hK => ?_) (AllReadyH.cons (Reg.get rfl) (fun K hK => ?_) AllReadyH.nil))
  
  · skip
    clear hHeld; go_simp; (skip); refine hK.out _ _ ?_ (fun hHeld => ?_); ((try dsimp only); skip); clear hK K
    try simp only [Act.put, List.setIfInBounds_toArray, List.set_cons_zero, List.set_cons_succ]
    first | ((refine Reg.tkB 2 (Reg.get rfl) hHeld ?_)) | (refine wpAnyH_ready (rs := [2]) (by kernel_rfl) (by simp) ?_; refine AllReadyH.cons (Reg.get rfl) (fun K hK => ?_) AllReadyH.nil; clear hHeld; go_simp; ((generalize hW : World.alloc _ _ = w4; (first | replace HP := own_toA HP hW | replace HP := own_toA (own_drewA HP) hW); (first | replace HI := in_to HI hW (by first | omega | (simp; done) | (simp; omega)) | replace HI := in_to (in_drewA HI) hW (by first | omega | (simp; done) | (simp; omega))); have H5 := own_freshA (lo := w2.heap.size) (sz := 1) hW (by first | omega | (simp; done) | (simp; omega)); have z4 := size_toA hW; (try simp only [World.size_drew] at z4); replace br : Bk.Blk w4 (w.heap.size + 1) 27 #[.int .i64 0, .slice none 0 0, .int .i64 0] := (by rw [← hW]; exact Bk.sv); replace bo : Bk.Blk w4 (w2.heap.size) 27 #[.int .i64 pe, .slice A1 n c1, .int .i64 lo] := (by rw [← hW]; exact Bk.sv); replace B : Below w.heap.size w w4 := (by rw [← hW]; go_grown); clear hW L_bo; have L_bo := Lay.f3 bo)); refine hK.out _ _ ?_ (fun hHeld => ?_); ((try dsimp only); skip); clear hK K)
    try simp only [Act.put, List.setIfInBounds_toArray, List.set_cons_zero, List.set_cons_succ]
    first | ((refine Reg.tkB 4 (Reg.get rfl) hHeld ?_)) | (refine wpAnyH_ready (rs := [4]) (by kernel_rfl) (by simp) ?_; refine AllReadyH.cons (Reg.get rfl) (fun K hK => ?_) AllReadyH.nil; clear hHeld; ((refine App.wp_app _ _ _ 25 rfl w2.heap.size 5 iu (.int .u8 0) 1 1 Try.underlying25 hiu hu0 hu1 hu2 rfl (by decide) _ _ _ _ rfl (by first | exact H5 | exact own_drewA H5) B' m d (bs.map (Value.int .u8)) rfl (by first | exact HBD.out.below B | exact (HBD.out.below B).drew) (one_ints .u8 _) (by unfold maxLen; omega) (by omega) (by first | omega | (simp; done) | (simp; omega)) ?_; intro A5 c5 w5 own5 hg0 _; (try simp only [Nat.zero_add, List.nil_append] at own5 ⊢); (first | replace HP := own_grownK HP H5 (by decide) hg0 | replace HP := own_grownK (own_drewA HP) (own_drewA H5) (by decide) hg0); (first | replace HI := in_grownK HI hg0 (own_lo H5) (by first | omega | (simp; done) | (simp; omega)) | replace HI := in_grownK (in_drewA HI) hg0 (own_lo H5) (by first | omega | (simp; done) | (simp; omega))); have hP := own_lo H5; replace bo : Bk.Blk w5 (w2.heap.size) 27 #[.int .i64 pe, .slice A1 n c1, .int .i64 lo] := blk_grownA hg0 (own_ne H5 (by exact bo) (by decide)) (by exact Bk.sv); replace br : Bk.Blk w5 (w.heap.size + 1) 27 #[.int .i64 0, .slice none 0 0, .int .i64 0] := blk_grownA hg0 (own_ne H5 (by exact br) (by decide)) (by exact Bk.sv); replace B : Below w.heap.size w w5 := Mem.below_app (by go_grown) hg0 (by first | omega | (simp; done) | (simp; omega)) (by intro q h; have := hP _ h; omega); have z5 := hg0.size; (try simp only [World.size_drew] at z5); clear hg0 hP H5 L_bo; have H5 := own5; clear own5; have L_bo := Lay.f3 bo)); refine hK.out _ _ ?_ (fun hHeld => ?_); ((try dsimp only); skip); clear hK K)
    try simp only [Act.put, List.setIfInBounds_toArray, List.set_cons_zero, List.set_cons_succ]
    first | ((refine Reg.tkB 5 (Reg.get rfl) hHeld ?_)) | (refine wpAnyH_ready (rs := [5]) (by kernel_rfl) (by simp) ?_; refine AllReadyH.cons (Reg.get rfl) (fun K hK => ?_) AllReadyH.nil; clear hHeld; go_simp; ((generalize hW : World.alloc _ _ = w6; (first | replace HP := own_toA HP hW | replace HP := own_toA (own_drewA HP) hW); (first | replace HI := in_to HI hW (by first | omega | (simp; done) | (simp; omega)) | replace HI := in_to (in_drewA HI) hW (by first | omega | (simp; done) | (simp; omega))); (first | replace H5 := own_toA H5 hW | replace H5 := own_toA (own_drewA H5) hW); have re := rd_oneA hW; have z6 := size_toA hW; (try simp only [World.size_drew] at z6); have hx6 : True := trivial; clear L_bo; replace br : Bk.Blk w6 (w.heap.size + 1) 27 #[.int .i64 0, .slice none 0 0, .int .i64 0] := (by rw [← hW]; exact Bk.sv); replace bo : Bk.Blk w6 (w2.heap.size) 27 #[.int .i64 pe, .slice A1 n c1, .int .i64 lo] := (by rw [← hW]; exact Bk.sv); replace B : Below w.heap.size w w6 := (by rw [← hW]; go_grown); clear hW; have L_bo := Lay.f3 bo)); refine hK.out _ _ ?_ (fun hHeld => ?_); ((try dsimp only); skip); clear hK K)
    try simp only [Act.put, List.setIfInBounds_toArray, List.set_cons_zero, List.set_cons_succ]
    first | ((refine Reg.tkB 6 (Reg.get rfl) hHeld ?_)) | (refine wpAnyH_ready (rs := [6]) (by kernel_rfl) (by simp) ?_; refine AllReadyH.cons (Reg.get rfl) (fun K hK => ?_) AllReadyH.nil; clear hHeld; ((refine App.wp_app _ _ _ 22 rfl w1.heap.size 25 ip (.slice none 0 0) 1 24 Try.underlying22 hip hp0 hp1 hp2 rfl (by decide) _ _ _ _ rfl (by first | exact HP | exact own_drewA HP) _ 1 1 [.slice A5 m c5] rfl (by first | exact re | exact re.drew) (fun u hu => by simp at hu; subst hu; rfl) (by unfold maxLen; omega) (by omega) (by first | omega | (simp; done) | (simp; omega)) ?_; intro A6 c6 w7 own6 hg0 _; (first | have HS := keep_own HX.out HL.out HP HI H5 (by omega) hg0 own6 (by first | omega | (simp; done) | (simp; omega)) | have HS := keep_own HX.out HL.out (own_drewA HP) (in_drewA HI) (own_drewA H5) (by omega) hg0 own6 (by first | omega | (simp; done) | (simp; omega))); have hP := own_lo HP; replace bo : Bk.Blk w7 (w2.heap.size) 27 #[.int .i64 pe, .slice A1 n c1, .int .i64 lo] := blk_grownA hg0 (own_ne HP bo (by decide)) (by exact Bk.sv); replace br : Bk.Blk w7 (w.heap.size + 1) 27 #[.int .i64 0, .slice none 0 0, .int .i64 0] := blk_grownA hg0 (own_ne HP br (by decide)) (by exact Bk.sv); replace B : Below w.heap.size w w7 := Mem.below_app (by go_grown) hg0 (by first | omega | (simp; done) | (simp; omega)) (by intro q h; have := hP _ h; omega); have z7 := hg0.size; (try simp only [World.size_drew] at z7); clear hg0 own6 hP HI H5 re HP L_bo; have L_bo := Lay.f3 bo)); refine hK.out _ _ ?_ (fun hHeld => ?_); ((try dsimp only); skip); clear hK K)
    try simp only [Act.put, List.setIfInBounds_toArray, List.set_cons_zero, List.set_cons_succ]
    first | refine Reg.tkA 7 (Reg.get rfl) hHeld ?_ | refine Reg.tkB 7 (Reg.get rfl) hHeld ?_
    try simp only [Act.put, List.setIfInBounds_toArray, List.set_cons_zero, List.set_cons_succ]
    first | ((refine Reg.tkB 8 (Reg.get rfl) hHeld ?_)) | (refine wpAnyH_ready (rs := [8]) (by kernel_rfl) (by simp) ?_; refine AllReadyH.cons (Reg.get rfl) (fun K hK => ?_) AllReadyH.nil; clear hHeld; go_simp; (skip); refine hK.out _ _ ?_ (fun hHeld => ?_); ((try dsimp only); skip); clear hK K)
    try simp only [Act.put, List.setIfInBounds_toArray, List.set_cons_zero, List.set_cons_succ]
    refine wpAnyH_done (by kernel_rfl) ?_ _
    clear L_bo
    generalize hW : World.setCell _ _ _ = w8
    have HS8 := Lib.hid (show OwnSS w8 w1.heap.size w7.heap.size A6 (n + 1) c6 (xss ++ [bs]) from by rw [← hW]; exact ownSS_far HS bo (by decide) (by decide) _)
    replace bo : Bk.Blk w8 (w2.heap.size) 27 #[.int .i64 pe, .slice A6 (n + 1) c6, .int .i64 lo] := (by rw [← hW]; apply Bk.Blk.to; (focus (exact Bk.sv)); rfl)
    replace br : Bk.Blk w8 (w.heap.size + 1) 27 #[.int .i64 0, .slice none 0 0, .int .i64 0] := (by rw [← hW]; exact Bk.sv)
    replace B : Below w.heap.size w w8 := (by rw [← hW]; go_grown)
    have z8 : w8.heap.size = _ := congrArg (fun W : World => W.heap.size) hW.symm
    (try simp only [World.size_alloc, Bk.size_set, World.size_drew, World.drewN] at z8)
    clear hW
    clear HS
    have L_br := Lay.f3 br
    have L_bo := Lay.f3 bo
    go_wp2
    clear L_br L_bo
    generalize hW : World.setCell _ _ _ = w9
    have HS9 := Lib.hid (show OwnSS w9 w1.heap.size w7.heap.size A6 (n + 1) c6 (xss ++ [bs]) from by rw [← hW]; exact own_set3 HS8.out (by omega) _ _ _)
    replace br : Bk.Blk w9 (w.heap.size + 1) 27 #[.int .i64 pe, .slice A6 (n + 1) c6, .int .i64 lo] := (by rw [← hW]; apply Bk.Blk.to; (focus (exact Bk.sv)); rfl)
    replace B : Below w.heap.size w w9 := (by rw [← hW]; go_grown)
    have z9 : w9.heap.size = _ := congrArg (fun W : World => W.heap.size) hW.symm
    (try simp only [World.size_alloc, Bk.size_set, World.size_drew, World.drewN] at z9)
    clear hW
    have L_br := Lay.c3 br
    refine bodyPost_ret (v := .agg #[.int .i64 pe, .slice A6 (n + 1) c6, .int .i64 lo]) (by simp [results, Try.results10, go_sem, L_br]) rfl (⟨A6, c6, rfl, HS9.out.wider (by omega) (by omega), B⟩)
  
  · skip
    clear hHeld; go_simp; ((generalize hW : World.alloc _ _ = w4; (first | replace HP := own_toA HP hW | replace HP := own_toA (own_drewA HP) hW); (first | replace HI := in_to HI hW (by first | omega | (simp; done) | (simp; omega)) | replace HI := in_to (in_drewA HI) hW (by first | omega | (simp; done) | (simp; omega))); have H5 := own_freshA (lo := w2.heap.size) (sz := 1) hW (by first | omega | (simp; done) | (simp; omega)); have z4 := size_toA hW; (try simp only [World.size_drew] at z4); replace br : Bk.Blk w4 (w.heap.size + 1) 27 #[.int .i64 0, .slice none 0 0, .int .i64 0] := (by rw [← hW]; exact Bk.sv); replace bo : Bk.Blk w4 (w2.heap.size) 27 #[.int .i64 pe, .slice A1 n c1, .int .i64 lo] := (by rw [← hW]; exact Bk.sv); replace B : Below w.heap.size w w4 := (by rw [← hW]; go_grown); clear hW L_bo; have L_bo := Lay.f3 bo)); refine hK.out _ _ ?_ (fun hHeld => ?_); ((try dsimp only); skip); clear hK K
    try simp only [Act.put, List.setIfInBounds_toArray, List.set_cons_zero, List.set_cons_succ]
    refine wpAnyH_ready (rs := [1, 4]) (by kernel_rfl) (by simp) ?_
    refine (AllReadyH.cons (Reg.get rfl) (fun K hK => ?_) (AllReadyH.cons (Reg.get rfl) (fun K hK => ?_) AllReadyH.nil))
  
    · skip
      clear hHeld; go_simp; (skip); refine hK.out _ _ ?_ (fun hHeld => ?_); ((try dsimp only); skip); clear hK K
      try simp only [Act.put, List.setIfInBounds_toArray, List.set_cons_zero, List.set_cons_succ]
      first | ((refine Reg.tkB 4 (Reg.get rfl) hHeld ?_)) | (refine wpAnyH_ready (rs := [4]) (by kernel_rfl) (by simp) ?_; refine AllReadyH.cons (Reg.get rfl) (fun K hK => ?_) AllReadyH.nil; clear hHeld; ((refine App.wp_app _ _ _ 25 rfl w2.heap.size 5 iu (.int .u8 0) 1 1 Try.underlying25 hiu hu0 hu1 hu2 rfl (by decide) _ _ _ _ rfl (by first | exact H5 | exact own_drewA H5) B' m d (bs.map (Value.int .u8)) rfl (by first | exact HBD.out.below B | exact (HBD.out.below B).drew) (one_ints .u8 _) (by unfold maxLen; omega) (by omega) (by first | omega | (simp; done) | (simp; omega)) ?_; intro A5 c5 w5 own5 hg0 _; (try simp only [Nat.zero_add, List.nil_append] at own5 ⊢); (first | replace HP := own_grownK HP H5 (by decide) hg0 | replace HP := own_grownK (own_drewA HP) (own_drewA H5) (by decide) hg0); (first | replace HI := in_grownK HI hg0 (own_lo H5) (by first | omega | (simp; done) | (simp; omega)) | replace HI := in_grownK (in_drewA HI) hg0 (own_lo H5) (by first | omega | (simp; done) | (simp; omega))); have hP := own_lo H5; replace bo : Bk.Blk w5 (w2.heap.size) 27 #[.int .i64 pe, .slice A1 n c1, .int .i64 lo] := blk_grownA hg0 (own_ne H5 (by exact bo) (by decide)) (by exact Bk.sv); replace br : Bk.Blk w5 (w.heap.size + 1) 27 #[.int .i64 0, .slice none 0 0, .int .i64 0] := blk_grownA hg0 (own_ne H5 (by exact br) (by decide)) (by exact Bk.sv); replace B : Below w.heap.size w w5 := Mem.below_app (by go_grown) hg0 (by first | omega | (simp; done) | (simp; omega)) (by intro q h; have := hP _ h; omega); have z5 := hg0.size; (try simp only [World.size_drew] at z5); clear hg0 hP H5 L_bo; have H5 := own5; clear own5; have L_bo := Lay.f3 bo)); refine hK.out _ _ ?_ (fun hHeld => ?_); ((try dsimp only); skip); clear hK K)
      try simp only [Act.put, List.setIfInBounds_toArray, List.set_cons_zero, List.set_cons_succ]
      first | ((refine Reg.tkB 5 (Reg.get rfl) hHeld ?_)) | (refine wpAnyH_ready (rs := [5]) (by kernel_rfl) (by simp) ?_; refine AllReadyH.cons (Reg.get rfl) (fun K hK => ?_) AllReadyH.nil; clear hHeld; go_simp; ((generalize hW : World.alloc _ _ = w6; (first | replace HP := own_toA HP hW | replace HP := own_toA (own_drewA HP) hW); (first | replace HI := in_to HI hW (by first | omega | (simp; done) | (simp; omega)) | replace HI := in_to (in_drewA HI) hW (by first | omega | (simp; done) | (simp; omega))); (first | replace H5 := own_toA H5 hW | replace H5 := own_toA (own_drewA H5) hW); have re := rd_oneA hW; have z6 := size_toA hW; (try simp only [World.size_drew] at z6); have hx6 : True := trivial; clear L_bo; replace br : Bk.Blk w6 (w.heap.size + 1) 27 #[.int .i64 0, .slice none 0 0, .int .i64 0] := (by rw [← hW]; exact Bk.sv); replace bo : Bk.Blk w6 (w2.heap.size) 27 #[.int .i64 pe, .slice A1 n c1, .int .i64 lo] := (by rw [← hW]; exact Bk.sv); replace B : Below w.heap.size w w6 := (by rw [← hW]; go_grown); clear hW; have L_bo := Lay.f3 bo)); refine hK.out _ _ ?_ (fun hHeld => ?_); ((try dsimp only); skip); clear hK K)
      try simp only [Act.put, List.setIfInBounds_toArray, List.set_cons_zero, List.set_cons_succ]
      first | ((refine Reg.tkB 6 (Reg.get rfl) hHeld ?_)) | (refine wpAnyH_ready (rs := [6]) (by kernel_rfl) (by simp) ?_; refine AllReadyH.cons (Reg.get rfl) (fun K hK => ?_) AllReadyH.nil; clear hHeld; ((refine App.wp_app _ _ _ 22 rfl w1.heap.size 25 ip (.slice none 0 0) 1 24 Try.underlying22 hip hp0 hp1 hp2 rfl (by decide) _ _ _ _ rfl (by first | exact HP | exact own_drewA HP) _ 1 1 [.slice A5 m c5] rfl (by first | exact re | exact re.drew) (fun u hu => by simp at hu; subst hu; rfl) (by unfold maxLen; omega) (by omega) (by first | omega | (simp; done) | (simp; omega)) ?_; intro A6 c6 w7 own6 hg0 _; (first | have HS := keep_own HX.out HL.out HP HI H5 (by omega) hg0 own6 (by first | omega | (simp; done) | (simp; omega)) | have HS := keep_own HX.out HL.out (own_drewA HP) (in_drewA HI) (own_drewA H5) (by omega) hg0 own6 (by first | omega | (simp; done) | (simp; omega))); have hP := own_lo HP; replace bo : Bk.Blk w7 (w2.heap.size) 27 #[.int .i64 pe, .slice A1 n c1, .int .i64 lo] := blk_grownA hg0 (own_ne HP bo (by decide)) (by exact Bk.sv); replace br : Bk.Blk w7 (w.heap.size + 1) 27 #[.int .i64 0, .slice none 0 0, .int .i64 0] := blk_grownA hg0 (own_ne HP br (by decide)) (by exact Bk.sv); replace B : Below w.heap.size w w7 := Mem.below_app (by go_grown) hg0 (by first | omega | (simp; done) | (simp; omega)) (by intro q h; have := hP _ h; omega); have z7 := hg0.size; (try simp only [World.size_drew] at z7); clear hg0 own6 hP HI H5 re HP L_bo; have L_bo := Lay.f3 bo)); refine hK.out _ _ ?_ (fun hHeld => ?_); ((try dsimp only); skip); clear hK K)
      try simp only [Act.put, List.setIfInBounds_toArray, List.set_cons_zero, List.set_cons_succ]
      first | refine Reg.tkA 7 (Reg.get rfl) hHeld ?_ | refine Reg.tkB 7 (Reg.get rfl) hHeld ?_
      try simp only [Act.put, List.setIfInBounds_toArray, List.set_cons_zero, List.set_cons_succ]
      first | ((refine Reg.tkB 8 (Reg.get rfl) hHeld ?_)) | (refine wpAnyH_ready (rs := [8]) (by kernel_rfl) (by simp) ?_; refine AllReadyH.cons (Reg.get rfl) (fun K hK => ?_) AllReadyH.nil; clear hHeld; go_simp; (skip); refine hK.out _ _ ?_ (fun hHeld => ?_); ((try dsimp only); skip); clear hK K)
      try simp only [Act.put, List.setIfInBounds_toArray, List.set_cons_zero, List.set_cons_succ]
      refine wpAnyH_done (by kernel_rfl) ?_ _
      clear L_bo
      generalize hW : World.setCell _ _ _ = w8
      have HS8 := Lib.hid (show OwnSS w8 w1.heap.size w7.heap.size A6 (n + 1) c6 (xss ++ [bs]) from by rw [← hW]; exact ownSS_far HS bo (by decide) (by decide) _)
      replace bo : Bk.Blk w8 (w2.heap.size) 27 #[.int .i64 pe, .slice A6 (n + 1) c6, .int .i64 lo] := (by rw [← hW]; apply Bk.Blk.to; (focus (exact Bk.sv)); rfl)
      replace br : Bk.Blk w8 (w.heap.size + 1) 27 #[.int .i64 0, .slice none 0 0, .int .i64 0] := (by rw [← hW]; exact Bk.sv)
      replace B : Below w.heap.size w w8 := (by rw [← hW]; go_grown)
      have z8 : w8.heap.size = _ := congrArg (fun W : World => W.heap.size) hW.symm
      (try simp only [World.size_alloc, Bk.size_set, World.size_drew, World.drewN] at z8)
      clear hW
      clear HS
      have L_br := Lay.f3 br
      have L_bo := Lay.f3 bo
      go_wp2
      clear L_br L_bo
      generalize hW : World.setCell _ _ _ = w9
      have HS9 := Lib.hid (show OwnSS w9 w1.heap.size w7.heap.size A6 (n + 1) c6 (xss ++ [bs]) from by rw [← hW]; exact own_set3 HS8.out (by omega) _ _ _)
      replace br : Bk.Blk w9 (w.heap.size + 1) 27 #[.int .i64 pe, .slice A6 (n + 1) c6, .int .i64 lo] := (by rw [← hW]; apply Bk.Blk.to; (focus (exact Bk.sv)); rfl)
      replace B : Below w.heap.size w w9 := (by rw [← hW]; go_grown)
      have z9 : w9.heap.size = _ := congrArg (fun W : World => W.heap.size) hW.symm
      (try simp only [World.size_alloc, Bk.size_set, World.size_drew, World.drewN] at z9)
      clear hW
      have L_br := Lay.c3 br
      refine bodyPost_ret (v := .agg #[.int .i64 pe, .slice A6 (n + 1) c6, .int .i64 lo]) (by simp [results, Try.results10, go_sem, L_br]) rfl (⟨A6, c6, rfl, HS9.out.wider (by omega) (by omega), B⟩)
  
    · skip
      clear hHeld; ((refine App.wp_app _ _ _ 25 rfl w2.heap.size 5 iu (.int .u8 0) 1 1 Try.underlying25 hiu hu0 hu1 hu2 rfl (by decide) _ _ _ _ rfl (by first | exact H5 | exact own_drewA H5) B' m d (bs.map (Value.int .u8)) rfl (by first | exact HBD.out.below B | exact (HBD.out.below B).drew) (one_ints .u8 _) (by unfold maxLen; omega) (by omega) (by first | omega | (simp; done) | (simp; omega)) ?_; intro A5 c5 w5 own5 hg0 _; (try simp only [Nat.zero_add, List.nil_append] at own5 ⊢); (first | replace HP := own_grownK HP H5 (by decide) hg0 | replace HP := own_grownK (own_drewA HP) (own_drewA H5) (by decide) hg0); (first | replace HI := in_grownK HI hg0 (own_lo H5) (by first | omega | (simp; done) | (simp; omega)) | replace HI := in_grownK (in_drewA HI) hg0 (own_lo H5) (by first | omega | (simp; done) | (simp; omega))); have hP := own_lo H5; replace bo : Bk.Blk w5 (w2.heap.size) 27 #[.int .i64 pe, .slice A1 n c1, .int .i64 lo] := blk_grownA hg0 (own_ne H5 (by exact bo) (by decide)) (by exact Bk.sv); replace br : Bk.Blk w5 (w.heap.size + 1) 27 #[.int .i64 0, .slice none 0 0, .int .i64 0] := blk_grownA hg0 (own_ne H5 (by exact br) (by decide)) (by exact Bk.sv); replace B : Below w.heap.size w w5 := Mem.below_app (by go_grown) hg0 (by first | omega | (simp; done) | (simp; omega)) (by intro q h; have := hP _ h; omega); have z5 := hg0.size; (try simp only [World.size_drew] at z5); clear hg0 hP H5 L_bo; have H5 := own5; clear own5; have L_bo := Lay.f3 bo)); refine hK.out _ _ ?_ (fun hHeld => ?_); ((try dsimp only); skip); clear hK K
      try simp only [Act.put, List.setIfInBounds_toArray, List.set_cons_zero, List.set_cons_succ]
      refine wpAnyH_ready (rs := [1, 5]) (by kernel_rfl) (by simp) ?_
      refine (AllReadyH.cons (Reg.get rfl) (fun K hK => ?_) (AllReadyH.cons (Reg.get rfl) (fun K hK => ?_) AllReadyH.nil))
  
      · skip
        clear hHeld; go_simp; (skip); refine hK.out _ _ ?_ (fun hHeld => ?_); ((try dsimp only); skip); clear hK K
        try simp only [Act.put, List.setIfInBounds_toArray, List.set_cons_zero, List.set_cons_succ]
        first | ((refine Reg.tkB 5 (Reg.get rfl) hHeld ?_)) | (refine wpAnyH_ready (rs := [5]) (by kernel_rfl) (by simp) ?_; refine AllReadyH.cons (Reg.get rfl) (fun K hK => ?_) AllReadyH.nil; clear hHeld; go_simp; ((generalize hW : World.alloc _ _ = w6; (first | replace HP := own_toA HP hW | replace HP := own_toA (own_drewA HP) hW); (first | replace HI := in_to HI hW (by first | omega | (simp; done) | (simp; omega)) | replace HI := in_to (in_drewA HI) hW (by first | omega | (simp; done) | (simp; omega))); (first | replace H5 := own_toA H5 hW | replace H5 := own_toA (own_drewA H5) hW); have re := rd_oneA hW; have z6 := size_toA hW; (try simp only [World.size_drew] at z6); have hx6 : True := trivial; clear L_bo; replace br : Bk.Blk w6 (w.heap.size + 1) 27 #[.int .i64 0, .slice none 0 0, .int .i64 0] := (by rw [← hW]; exact Bk.sv); replace bo : Bk.Blk w6 (w2.heap.size) 27 #[.int .i64 pe, .slice A1 n c1, .int .i64 lo] := (by rw [← hW]; exact Bk.sv); replace B : Below w.heap.size w w6 := (by rw [← hW]; go_grown); clear hW; have L_bo := Lay.f3 bo)); refine hK.out _ _ ?_ (fun hHeld => ?_); ((try dsimp only); skip); clear hK K)
        try simp only [Act.put, List.setIfInBounds_toArray, List.set_cons_zero, List.set_cons_succ]
        first | ((refine Reg.tkB 6 (Reg.get rfl) hHeld ?_)) | (refine wpAnyH_ready (rs := [6]) (by kernel_rfl) (by simp) ?_; refine AllReadyH.cons (Reg.get rfl) (fun K hK => ?_) AllReadyH.nil; clear hHeld; ((refine App.wp_app _ _ _ 22 rfl w1.heap.size 25 ip (.slice none 0 0) 1 24 Try.underlying22 hip hp0 hp1 hp2 rfl (by decide) _ _ _ _ rfl (by first | exact HP | exact own_drewA HP) _ 1 1 [.slice A5 m c5] rfl (by first | exact re | exact re.drew) (fun u hu => by simp at hu; subst hu; rfl) (by unfold maxLen; omega) (by omega) (by first | omega | (simp; done) | (simp; omega)) ?_; intro A6 c6 w7 own6 hg0 _; (first | have HS := keep_own HX.out HL.out HP HI H5 (by omega) hg0 own6 (by first | omega | (simp; done) | (simp; omega)) | have HS := keep_own HX.out HL.out (own_drewA HP) (in_drewA HI) (own_drewA H5) (by omega) hg0 own6 (by first | omega | (simp; done) | (simp; omega))); have hP := own_lo HP; replace bo : Bk.Blk w7 (w2.heap.size) 27 #[.int .i64 pe, .slice A1 n c1, .int .i64 lo] := blk_grownA hg0 (own_ne HP bo (by decide)) (by exact Bk.sv); replace br : Bk.Blk w7 (w.heap.size + 1) 27 #[.int .i64 0, .slice none 0 0, .int .i64 0] := blk_grownA hg0 (own_ne HP br (by decide)) (by exact Bk.sv); replace B : Below w.heap.size w w7 := Mem.below_app (by go_grown) hg0 (by first | omega | (simp; done) | (simp; omega)) (by intro q h; have := hP _ h; omega); have z7 := hg0.size; (try simp only [World.size_drew] at z7); clear hg0 own6 hP HI H5 re HP L_bo; have L_bo := Lay.f3 bo)); refine hK.out _ _ ?_ (fun hHeld => ?_); ((try dsimp only); skip); clear hK K)
        try simp only [Act.put, List.setIfInBounds_toArray, List.set_cons_zero, List.set_cons_succ]
        first | refine Reg.tkA 7 (Reg.get rfl) hHeld ?_ | refine Reg.tkB 7 (Reg.get rfl) hHeld ?_
        try simp only [Act.put, List.setIfInBounds_toArray, List.set_cons_zero, List.set_cons_succ]
        first | ((refine Reg.tkB 8 (Reg.get rfl) hHeld ?_)) | (refine wpAnyH_ready (rs := [8]) (by kernel_rfl) (by simp) ?_; refine AllReadyH.cons (Reg.get rfl) (fun K hK => ?_) AllReadyH.nil; clear hHeld; go_simp; (skip); refine hK.out _ _ ?_ (fun hHeld => ?_); ((try dsimp only); skip); clear hK K)
        try simp only [Act.put, List.setIfInBounds_toArray, List.set_cons_zero, List.set_cons_succ]
        refine wpAnyH_done (by kernel_rfl) ?_ _
        clear L_bo
        generalize hW : World.setCell _ _ _ = w8
        have HS8 := Lib.hid (show OwnSS w8 w1.heap.size w7.heap.size A6 (n + 1) c6 (xss ++ [bs]) from by rw [← hW]; exact ownSS_far HS bo (by decide) (by decide) _)
        replace bo : Bk.Blk w8 (w2.heap.size) 27 #[.int .i64 pe, .slice A6 (n + 1) c6, .int .i64 lo] := (by rw [← hW]; apply Bk.Blk.to; (focus (exact Bk.sv)); rfl)
        replace br : Bk.Blk w8 (w.heap.size + 1) 27 #[.int .i64 0, .slice none 0 0, .int .i64 0] := (by rw [← hW]; exact Bk.sv)
        replace B : Below w.heap.size w w8 := (by rw [← hW]; go_grown)
        have z8 : w8.heap.size = _ := congrArg (fun W : World => W.heap.size) hW.symm
        (try simp only [World.size_alloc, Bk.size_set, World.size_drew, World.drewN] at z8)
        clear hW
        clear HS
        have L_br := Lay.f3 br
        have L_bo := Lay.f3 bo
        go_wp2
        clear L_br L_bo
        generalize hW : World.setCell _ _ _ = w9
        have HS9 := Lib.hid (show OwnSS w9 w1.heap.size w7.heap.size A6 (n + 1) c6 (xss ++ [bs]) from by rw [← hW]; exact own_set3 HS8.out (by omega) _ _ _)
        replace br : Bk.Blk w9 (w.heap.size + 1) 27 #[.int .i64 pe, .slice A6 (n + 1) c6, .int .i64 lo] := (by rw [← hW]; apply Bk.Blk.to; (focus (exact Bk.sv)); rfl)
        replace B : Below w.heap.size w w9 := (by rw [← hW]; go_grown)
        have z9 : w9.heap.size = _ := congrArg (fun W : World => W.heap.size) hW.symm
        (try simp only [World.size_alloc, Bk.size_set, World.size_drew, World.drewN] at z9)
        clear hW
        have L_br := Lay.c3 br
        refine bodyPost_ret (v := .agg #[.int .i64 pe, .slice A6 (n + 1) c6, .int .i64 lo]) (by simp [results, Try.results10, go_sem, L_br]) rfl (⟨A6, c6, rfl, HS9.out.wider (by omega) (by omega), B⟩)
  
      · skip
        clear hHeld; go_simp; ((generalize hW : World.alloc _ _ = w6; (first | replace HP := own_toA HP hW | replace HP := own_toA (own_drewA HP) hW); (first | replace HI := in_to HI hW (by first | omega | (simp; done) | (simp; omega)) | replace HI := in_to (in_drewA HI) hW (by first | omega | (simp; done) | (simp; omega))); (first | replace H5 := own_toA H5 hW | replace H5 := own_toA (own_drewA H5) hW); have re := rd_oneA hW; have z6 := size_toA hW; (try simp only [World.size_drew] at z6); have hx6 : True := trivial; clear L_bo; replace br : Bk.Blk w6 (w.heap.size + 1) 27 #[.int .i64 0, .slice none 0 0, .int .i64 0] := (by rw [← hW]; exact Bk.sv); replace bo : Bk.Blk w6 (w2.heap.size) 27 #[.int .i64 pe, .slice A1 n c1, .int .i64 lo] := (by rw [← hW]; exact Bk.sv); replace B : Below w.heap.size w w6 := (by rw [← hW]; go_grown); clear hW; have L_bo := Lay.f3 bo)); refine hK.out _ _ ?_ (fun hHeld => ?_); ((try dsimp only); skip); clear hK K
        try simp only [Act.put, List.setIfInBounds_toArray, List.set_cons_zero, List.set_cons_succ]
        first | ((refine Reg.tkB 1 (Reg.get rfl) hHeld ?_)) | (refine wpAnyH_ready (rs := [1]) (by kernel_rfl) (by simp) ?_; refine AllReadyH.cons (Reg.get rfl) (fun K hK => ?_) AllReadyH.nil; clear hHeld; go_simp; (skip); refine hK.out _ _ ?_ (fun hHeld => ?_); ((try dsimp only); skip); clear hK K)
        try simp only [Act.put, List.setIfInBounds_toArray, List.set_cons_zero, List.set_cons_succ]
        first | ((refine Reg.tkB 6 (Reg.get rfl) hHeld ?_)) | (refine wpAnyH_ready (rs := [6]) (by kernel_rfl) (by simp) ?_; refine AllReadyH.cons (Reg.get rfl) (fun K hK => ?_) AllReadyH.nil; clear hHeld; ((refine App.wp_app _ _ _ 22 rfl w1.heap.size 25 ip (.slice none 0 0) 1 24 Try.underlying22 hip hp0 hp1 hp2 rfl (by decide) _ _ _ _ rfl (by first | exact HP | exact own_drewA HP) _ 1 1 [.slice A5 m c5] rfl (by first | exact re | exact re.drew) (fun u hu => by simp at hu; subst hu; rfl) (by unfold maxLen; omega) (by omega) (by first | omega | (simp; done) | (simp; omega)) ?_; intro A6 c6 w7 own6 hg0 _; (first | have HS := keep_own HX.out HL.out HP HI H5 (by omega) hg0 own6 (by first | omega | (simp; done) | (simp; omega)) | have HS := keep_own HX.out HL.out (own_drewA HP) (in_drewA HI) (own_drewA H5) (by omega) hg0 own6 (by first | omega | (simp; done) | (simp; omega))); have hP := own_lo HP; replace bo : Bk.Blk w7 (w2.heap.size) 27 #[.int .i64 pe, .slice A1 n c1, .int .i64 lo] := blk_grownA hg0 (own_ne HP bo (by decide)) (by exact Bk.sv); replace br : Bk.Blk w7 (w.heap.size + 1) 27 #[.int .i64 0, .slice none 0 0, .int .i64 0] := blk_grownA hg0 (own_ne HP br (by decide)) (by exact Bk.sv); replace B : Below w.heap.size w w7 := Mem.below_app (by go_grown) hg0 (by first | omega | (simp; done) | (simp; omega)) (by intro q h; have := hP _ h; omega); have z7 := hg0.size; (try simp only [World.size_drew] at z7); clear hg0 own6 hP HI H5 re HP L_bo; have L_bo := Lay.f3 bo)); refine hK.out _ _ ?_ (fun hHeld => ?_); ((try dsimp only); skip); clear hK K)
        try simp only [Act.put, List.setIfInBounds_toArray, List.set_cons_zero, List.set_cons_succ]
        first | refine Reg.tkA 7 (Reg.get rfl) hHeld ?_ | refine Reg.tkB 7 (Reg.get rfl) hHeld ?_
        try simp only [Act.put, List.setIfInBounds_toArray, List.set_cons_zero, List.set_cons_succ]
        first | ((refine Reg.tkB 8 (Reg.get rfl) hHeld ?_)) | (refine wpAnyH_ready (rs := [8]) (by kernel_rfl) (by simp) ?_; refine AllReadyH.cons (Reg.get rfl) (fun K hK => ?_) AllReadyH.nil; clear hHeld; go_simp; (skip); refine hK.out _ _ ?_ (fun hHeld => ?_); ((try dsimp only); skip); clear hK K)
        try simp only [Act.put, List.setIfInBounds_toArray, List.set_cons_zero, List.set_cons_succ]
        refine wpAnyH_done (by kernel_rfl) ?_ _
        clear L_bo
        generalize hW : World.setCell _ _ _ = w8
        have HS8 := Lib.hid (show OwnSS w8 w1.heap.size w7.heap.size A6 (n + 1) c6 (xss ++ [bs]) from by rw [← hW]; exact ownSS_far HS bo (by decide) (by decide) _)
        replace bo : Bk.Blk w8 (w2.heap.size) 27 #[.int .i64 pe, .slice A6 (n + 1) c6, .int .i64 lo] := (by rw [← hW]; apply Bk.Blk.to; (focus (exact Bk.sv)); rfl)
        replace br : Bk.Blk w8 (w.heap.size + 1) 27 #[.int .i64 0, .slice none 0 0, .int .i64 0] := (by rw [← hW]; exact Bk.sv)
        replace B : Below w.heap.size w w8 := (by rw [← hW]; go_grown)
        have z8 : w8.heap.size = _ := congrArg (fun W : World => W.heap.size) hW.symm
        (try simp only [World.size_alloc, Bk.size_set, World.size_drew, World.drewN] at z8)
        clear hW
        clear HS
        have L_br := Lay.f3 br
        have L_bo := Lay.f3 bo
        go_wp2
        clear L_br L_bo
        generalize hW : World.setCell _ _ _ = w9
        have HS9 := Lib.hid (show OwnSS w9 w1.heap.size w7.heap.size A6 (n + 1) c6 (xss ++ [bs]) from by rw [← hW]; exact own_set3 HS8.out (by omega) _ _ _)
        replace br : Bk.Blk w9 (w.heap.size + 1) 27 #[.int .i64 pe, .slice A6 (n + 1) c6, .int .i64 lo] := (by rw [← hW]; apply Bk.Blk.to; (focus (exact Bk.sv)); rfl)
        replace B : Below w.heap.size w w9 := (by rw [← hW]; go_grown)
        have z9 : w9.heap.size = _ := congrArg (fun W : World => W.heap.size) hW.symm
        (try simp only [World.size_alloc, Bk.size_set, World.size_drew, World.drewN] at z9)
        clear hW
        have L_br := Lay.c3 br
        refine bodyPost_ret (v := .agg #[.int .i64 pe, .slice A6 (n + 1) c6, .int .i64 lo]) (by simp [results, Try.results10, go_sem, L_br]) rfl (⟨A6, c6, rfl, HS9.out.wider (by omega) (by omega), B⟩)
end Go.Proofs.Ythdieeaegplnmaa.Gb
