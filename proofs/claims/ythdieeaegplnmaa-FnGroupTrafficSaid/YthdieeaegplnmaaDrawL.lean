/- The draw of a group buffer that is valid. -/
import Derived.Test.YthdieeaegplnmaaKeep
import Derived.Test.YthdieeaegplnmaaKeepA
import Derived.Test.YthdieeaegplnmaaDrawB
import Derived.Test.YthdieeaegplnmaaDraw
namespace Go.Proofs.Ythdieeaegplnmaa.Gb
open Go.RowKit
open Go.Proofs.Ythdieeaegplnmaa.Num Go.Proofs.Ythdieeaegplnmaa.Mem Go.Proofs.Ythdieeaegplnmaa.Hsh Go.Proofs.Ythdieeaegplnmaa.Sls Go.Proofs.Ythdieeaegplnmaa.Own Go.Proofs.Ythdieeaegplnmaa.SS Go.Proofs.Ythdieeaegplnmaa.Bcn Go.Proofs.Ythdieeaegplnmaa.Cur
set_option linter.unusedSimpArgs false
set_option linter.unusedVariables false
/-- a valid group buffer, whose lost frames are at most b -/
def GoodG (pe lo : Int) (xss : List (List Int)) (n b : Nat) : Prop := validG pe lo xss n ∧ xss.length = n ∧ lo ≤ (b : Int)
theorem GoodG.mono {pe lo : Int} {xss : List (List Int)} {n b b2 : Nat} (h : GoodG pe lo xss n b) (hb : b ≤ b2) : GoodG pe lo xss n b2 := ⟨h.1, h.2.1, by have := h.2.2; omega⟩
theorem GoodG.short {pe lo : Int} {xss : List (List Int)} {n b : Nat} (h : GoodG pe lo xss n b) : AllShort xss := fun i => by
  rcases Nat.lt_or_ge i n with hi | hi
  · have := h.1.2 i hi; omega
  · rw [List.getD_eq_getElem?_getD, List.getElem?_eq_none (by rw [h.2.1]; exact hi)]; simp
theorem ss_grown {w w' : World} {lo g n c : Nat} {A : Option Addr} {xss : List (List Int)} (h : OwnSS w lo w.heap.size A n c xss) (hg : w.grownBy w' (some g)) (hb : g < lo) : OwnSS w' lo w'.heap.size A n c xss := (h.keep fun q h1 h2 => hg.block q h2 (fun e => by injection e with e; omega)).wider (Nat.le_refl _) hg.size
theorem ss_set {w : World} {lo b o n c : Nat} {A : Option Addr} {xss : List (List Int)} {u : Value} (h : OwnSS w lo w.heap.size A n c xss) (hb : b < lo) : OwnSS (w.setCell ⟨b, o, none⟩ u) lo (w.setCell ⟨b, o, none⟩ u).heap.size A n c xss := (h.keep fun q h1 _ => Below.heap_setCell _ _ _ q (by simp; omega)).wider (Nat.le_refl _) (by rw [Bk.size_set]; exact Nat.le_refl _)
theorem ss_below {w w' : World} {lo n c : Nat} {A : Option Addr} {xss : List (List Int)} (h : OwnSS w lo w.heap.size A n c xss) (hb : Below w.heap.size w w') : OwnSS w' lo w'.heap.size A n c xss := (h.keep fun q _ h2 => hb.block q h2).wider (Nat.le_refl _) hb.size
theorem ss_nil (w : World) (lo hi : Nat) : OwnSS w lo hi none 0 0 [] := ⟨rfl, [], rfl, ⟨⟨rfl, .inl ⟨rfl, rfl⟩⟩, fun q hq => by cases hq⟩, ⟨fun i h => absurd h (Nat.not_lt_zero _), fun i j _ h => absurd h (Nat.not_lt_zero _)⟩⟩
theorem keepG_good (pe lo : Int) (A : Option Addr) (n c b : Nat) (xss : List (List Int)) (B' : Option Addr) (m d : Nat) (bs : List Int) (w : World) (h : GoodG pe lo xss n b) (hb : b ≤ 1000000) (hm : m ≤ 2097152) (hr : RdSS w A n c xss) (hbd : Rd w 1 B' m d (bs.map (Value.int .u8))) :
    Calls Try.prog 10 #[.agg #[.int .i64 pe, .slice A n c, .int .i64 lo], .slice B' m d] w fun x w' => ∃ (lo2 : Int) (n2 : Nat) (yss : List (List Int)), GoodG pe lo2 yss n2 (b + 1) ∧ RetGb w pe lo2 n2 yss x w' := by
  obtain ⟨hv, hl, hlo⟩ := h
  have hs := GoodG.short (b := b) ⟨hv, hl, hlo⟩
  have h6 := hv.1.2.1
  have h0 := hv.1.2.2
  have hml := len_ints hbd
  by_cases hc : n < 6 ∧ m ≤ 100
  · refine (keep_app_spec pe lo A n c xss B' m d bs w hv hc.1 hc.2 hr hs hbd).mono ?_
    intro x w' hx
    refine ⟨lo, n + 1, xss ++ [bs], ⟨⟨⟨hv.1.1, by omega, h0⟩, fun i hi => ?_⟩, by simp [hl], by omega⟩, hx⟩
    rw [List.getD_eq_getElem?_getD]
    rcases Nat.lt_or_ge i n with h3 | h3
    · rw [List.getElem?_append_left (by omega), ← List.getD_eq_getElem?_getD]; exact hv.2 i h3
    · obtain rfl : i = n := by omega
      rw [List.getElem?_append_right (by omega), hl, Nat.sub_self]
      show bs.length ≤ 100
      omega
  · refine (keep_full_spec pe lo A n c xss B' m d w hv (by omega) (by omega) hr (by omega) hs).mono ?_
    intro x w' hx
    rw [IntWalk.wrap64_in _ ⟨by omega, by omega⟩] at hx
    exact ⟨lo + 1, n, xss, ⟨⟨⟨hv.1.1, h6, by omega⟩, hv.2⟩, hl, by omega⟩, hx⟩
theorem newG_spec (p : Int) (w : World) (h1 : 1 ≤ p) (h8 : p ≤ 8) : Calls Try.prog 107 #[.int .i64 p] w fun x w' => x = .returned (.agg #[.int .i64 p, .slice none 0 0, .int .i64 0]) ∧ Below w.heap.size w w' := by
  go_enter Try.func107, Try.ntmps107
  go_wp2_with (first | (go_at_call 72; refine (in_spec_yes _ _ _ _ (by omega) (by omega)).mono ?_; rintro e w' ⟨rfl, rfl⟩))
  go_returns
  exact ⟨rfl, by go_grown⟩
/-- a valid group buffer has been drawn into new memory -/
def DrewGb (w : World) (g : Nat) (A : Option Addr) (n c : Nat) (bs : List Int) (e : Ending) (w' : World) : Prop :=
  ∃ (pe lo : Int) (N : Nat) (xss : List (List Int)) (Ag : Option Addr) (cg : Nat), GoodG pe lo xss N 8 ∧ OwnSS w' w.heap.size w'.heap.size Ag N cg xss ∧ e = .returned (.agg #[.int .i64 pe, .slice Ag N cg, .int .i64 lo]) ∧ Cur w' g A n c bs ∧ w.grownBy w' (some g)
set_option maxRecDepth 100000 in
set_option maxHeartbeats 16000000 in
theorem l27Buffer_any (A : Option Addr) (n c : Nat) (bs : List Int) (g : Nat) (w : World) (hcur : Cur w g A n c bs) :
    Calls Try.prog 95 #[.pointer (some ⟨g, 0, none⟩)] w (DrewGb w g A n c bs) := by
  have HAL := Lib.hid (CurB.old_cur hcur)
  have hgl := hcur.lt
  have C := hcur
  have G : w.grownBy w (some g) := World.grownBy.refl _ _
  clear hcur
  go_enter Try.func95, Try.ntmps95
  go_wp2_with fail
  generalize hW : World.alloc _ _ = w1
  have r0 : Bk.Blk w1 (w.heap.size) 27 #[.int .i64 0, .slice none 0 0, .int .i64 0] := (by rw [← hW]; apply Bk.Blk.to; (focus (exact Bk.sv)); rfl)
  replace C : Cur.Cur w1 (g) A n c bs := (by rw [← hW]; (repeat (first | with_reducible assumption | with_reducible apply Cur.Cur.alloc | with_reducible apply CurB.cur_drewN | with_reducible apply CurB.cur_drew | ((with_reducible refine CurB.cur_set HAL.out ?_ ?_ ?_ _); (focus (first | omega | (dsimp only; done) | (dsimp only; omega))); (focus (first | omega | (dsimp only; omega)))))))
  replace G : w.grownBy w1 (some (g)) := (by rw [← hW]; exact CurB.gv)
  have z1 : w1.heap.size = _ := congrArg (fun W : World => W.heap.size) hW.symm
  (try simp only [World.size_alloc, Bk.size_set, World.size_drew, World.drewN] at z1)
  clear hW
  go_wp2_with fail
  refine (l1Below_any A n c bs g _ _ (by (repeat (first | with_reducible assumption | with_reducible apply Cur.Cur.alloc | with_reducible apply CurB.cur_drewN | with_reducible apply CurB.cur_drew | ((with_reducible refine CurB.cur_set HAL.out ?_ ?_ ?_ _); (focus (first | omega | (dsimp only; done) | (dsimp only; omega))); (focus (first | omega | (dsimp only; omega))))))) (by omega) (by omega)).mono ?_
  rintro x w2 ⟨p, hp, rfl, C0, hg0⟩
  replace r0 : Bk.Blk w2 (w.heap.size) 27 #[.int .i64 0, .slice none 0 0, .int .i64 0] := Bk.Blk.grown hg0 (by omega) (by exact Bk.sv)
  replace C := C0
  replace G : w.grownBy w2 (some (g)) := World.grownBy.trans (by exact CurB.gv) hg0
  have z2 := hg0.size
  (try simp only [World.size_alloc, Bk.size_set, World.size_drew, World.drewN] at z2)
  clear hg0
  obtain ⟨p0, p1⟩ := hp
  go_wp2_with fail
  refine (newG_spec (1 + p) _ (by omega) (by omega)).mono ?_
  rintro x w3 ⟨rfl, hb0⟩
  replace r0 : Bk.Blk w3 (w.heap.size) 27 #[.int .i64 0, .slice none 0 0, .int .i64 0] := Bk.Blk.under hb0 (by exact Bk.sv)
  replace C : Cur.Cur w3 (g) A n c bs := Cur.Cur.below (by (repeat (first | with_reducible assumption | with_reducible apply Cur.Cur.alloc | with_reducible apply CurB.cur_drewN | with_reducible apply CurB.cur_drew | ((with_reducible refine CurB.cur_set HAL.out ?_ ?_ ?_ _); (focus (first | omega | (dsimp only; done) | (dsimp only; omega))); (focus (first | omega | (dsimp only; omega))))))) hb0
  replace G : w.grownBy w3 (some (g)) := World.grownBy.trans (by exact CurB.gv) (Cur.grown_of_below hb0 _)
  have z3 := hb0.size
  (try simp only [World.size_alloc, Bk.size_set, World.size_drew, World.drewN] at z3)
  clear hb0
  go_wp2_with fail
  generalize hW : World.alloc _ _ = w4
  have bk : Bk.Blk w4 (w3.heap.size) 27 #[.int .i64 (1 + p), .slice none 0 0, .int .i64 0] := (by rw [← hW]; apply Bk.Blk.to; (focus (exact Bk.sv)); rfl)
  replace r0 : Bk.Blk w4 (w.heap.size) 27 #[.int .i64 0, .slice none 0 0, .int .i64 0] := (by rw [← hW]; exact Bk.sv)
  replace C : Cur.Cur w4 (g) A n c bs := (by rw [← hW]; (repeat (first | with_reducible assumption | with_reducible apply Cur.Cur.alloc | with_reducible apply CurB.cur_drewN | with_reducible apply CurB.cur_drew | ((with_reducible refine CurB.cur_set HAL.out ?_ ?_ ?_ _); (focus (first | omega | (dsimp only; done) | (dsimp only; omega))); (focus (first | omega | (dsimp only; omega)))))))
  replace G : w.grownBy w4 (some (g)) := (by rw [← hW]; exact CurB.gv)
  have z4 : w4.heap.size = _ := congrArg (fun W : World => W.heap.size) hW.symm
  (try simp only [World.size_alloc, Bk.size_set, World.size_drew, World.drewN] at z4)
  clear hW
  go_wp2_with fail
  refine (l1Below_any A n c bs g _ _ (by (repeat (first | with_reducible assumption | with_reducible apply Cur.Cur.alloc | with_reducible apply CurB.cur_drewN | with_reducible apply CurB.cur_drew | ((with_reducible refine CurB.cur_set HAL.out ?_ ?_ ?_ _); (focus (first | omega | (dsimp only; done) | (dsimp only; omega))); (focus (first | omega | (dsimp only; omega))))))) (by omega) (by omega)).mono ?_
  rintro x w5 ⟨k, hk, rfl, C0, hg0⟩
  replace r0 : Bk.Blk w5 (w.heap.size) 27 #[.int .i64 0, .slice none 0 0, .int .i64 0] := Bk.Blk.grown hg0 (by omega) (by exact Bk.sv)
  replace bk : Bk.Blk w5 (w3.heap.size) 27 #[.int .i64 (1 + p), .slice none 0 0, .int .i64 0] := Bk.Blk.grown hg0 (by omega) (by exact Bk.sv)
  replace C := C0
  replace G : w.grownBy w5 (some (g)) := World.grownBy.trans (by exact CurB.gv) hg0
  have z5 := hg0.size
  (try simp only [World.size_alloc, Bk.size_set, World.size_drew, World.drewN] at z5)
  clear hg0
  obtain ⟨k0, k1⟩ := hk
  generalize hpe : 1 + p = pe at *
  have hp1 : 1 ≤ pe := by omega
  have hp4 : pe ≤ 4 := by omega
  clear hpe p0 p1
  go_wp2_with fail
  go_loopw [4] (fun v4 wr => ∃ (i lo : Int) (N b : Nat) (xss : List (List Int)) (Ap : Option Addr) (cp : Nat), v4 = .int .i64 i ∧ 0 ≤ i ∧ (b : Int) + i ≤ 8 ∧ GoodG pe lo xss N b ∧ OwnSS wr (w3.heap.size + 1) wr.heap.size Ap N cp xss ∧ Bk.Blk wr (w.heap.size) 27 #[.int .i64 0, .slice none 0 0, .int .i64 0] ∧ Bk.Blk wr (w3.heap.size) 27 #[.int .i64 pe, .slice Ap N cp, .int .i64 lo] ∧ Cur wr g A n c bs ∧ w.grownBy wr (some g)) (fun v4 _ => (intOf v4).toNat)
  case atStart => exact ⟨k, 0, 0, 0, [], none, 0, rfl, k0, by omega, ⟨⟨⟨⟨hp1, by omega⟩, by omega, Int.le_refl _⟩, fun i hi => absurd hi (Nat.not_lt_zero _)⟩, rfl, Int.le_refl _⟩, ss_nil _ _ _, r0, bk, C, G⟩
  case round =>
    clear r0 bk C G
    obtain ⟨i, lo, N, b, xss, Ap, cp, rfl, hi0, hi2, hgd, hpi, r0, bk, C, G⟩ := hrel
    have HGD := Lib.hid hgd
    have HPI := Lib.hid hpi
    have hN6 := hgd.1.1.2.1
    clear hgd hpi
    obtain ⟨w6, hw6⟩ : ∃ W, W = wr := ⟨_, rfl⟩
    subst hw6
    have z6g := G.size
    have hgw : g < w6.heap.size := C.lt
    have zr0 := r0.lt
    have zbk := bk.lt
    by_cases hz : 0 < i
    · skip
      go_wp2_with fail
      have cb := Lay.f3 bk
      refine wp_region_held_drew (S := (fun _ => True)) (by kernel_rfl) ?_ (fun hHeld => ?_)
      · (try dsimp only); skip
      first | refine Reg.tkA 1 (Reg.get rfl) hHeld ?_ | refine Reg.tkB 1 (Reg.get rfl) hHeld ?_
      try simp only [Act.put, List.setIfInBounds_toArray, List.set_cons_zero, List.set_cons_succ]
      first | refine Reg.tkA 2 (Reg.get rfl) hHeld ?_ | refine Reg.tkB 2 (Reg.get rfl) hHeld ?_
      try simp only [Act.put, List.setIfInBounds_toArray, List.set_cons_zero, List.set_cons_succ]
      refine wpAnyH_ready (rs := [0, 3]) (by kernel_rfl) (by simp) ?_
      refine (AllReadyH.cons (Reg.get rfl) (fun K hK => ?_) (AllReadyH.cons (Reg.get rfl) (fun K hK => ?_) AllReadyH.nil))
      
      · skip
        clear hHeld; go_simp; (skip); refine hK.out _ _ ?_ (fun hHeld => ?_); ((try dsimp only); skip); clear hK K
        try simp only [Act.put, List.setIfInBounds_toArray, List.set_cons_zero, List.set_cons_succ]
        first | ((refine Reg.tkB 3 (Reg.get rfl) hHeld ?_)) | (refine wpAnyH_ready (rs := [3]) (by kernel_rfl) (by simp) ?_; refine AllReadyH.cons (Reg.get rfl) (fun K hK => ?_) AllReadyH.nil; clear hHeld; go_simp; ((go_at_call 88; refine (l1Below_any A n c bs g _ _ (by (repeat (first | with_reducible assumption | with_reducible apply Cur.Cur.alloc | with_reducible apply CurB.cur_drewN | with_reducible apply CurB.cur_drew | ((with_reducible refine CurB.cur_set HAL.out ?_ ?_ ?_ _); (focus (first | omega | (dsimp only; done) | (dsimp only; omega))); (focus (first | omega | (dsimp only; omega))))))) (by omega) (by omega)).mono ?_; rintro e w7 ⟨m, hm, rfl, C0, hg0⟩; (first | replace HPI := Lib.hid (ss_grown HPI.out hg0 (by omega)) | replace HPI := Lib.hid (ss_grown (w := w6.drew) HPI.out hg0 (by omega))); replace r0 : Bk.Blk w7 (w.heap.size) 27 #[.int .i64 0, .slice none 0 0, .int .i64 0] := Bk.Blk.grown hg0 (by omega) (by exact Bk.sv); replace bk : Bk.Blk w7 (w3.heap.size) 27 #[.int .i64 pe, .slice Ap N cp, .int .i64 lo] := Bk.Blk.grown hg0 (by omega) (by exact Bk.sv); replace C := C0; replace G : w.grownBy w7 (some (g)) := World.grownBy.trans (by exact CurB.gv) hg0; have z7 := hg0.size; (try simp only [World.size_alloc, Bk.size_set, World.size_drew, World.drewN] at z7); clear hg0; obtain ⟨m0, m1⟩ := hm; clear cb; have cb := Lay.f3 bk)); refine hK.out _ _ ?_ (fun hHeld => ?_); ((try dsimp only); skip); clear hK K)
        try simp only [Act.put, List.setIfInBounds_toArray, List.set_cons_zero, List.set_cons_succ]
        first | ((refine Reg.tkB 4 (Reg.get rfl) hHeld ?_)) | (refine wpAnyH_ready (rs := [4]) (by kernel_rfl) (by simp) ?_; refine AllReadyH.cons (Reg.get rfl) (fun K hK => ?_) AllReadyH.nil; clear hHeld; go_simp; ((go_at_call 104; refine (Drw.l1Bytes_any A n c bs g m _ (by (repeat (first | with_reducible assumption | with_reducible apply Cur.Cur.alloc | with_reducible apply CurB.cur_drewN | with_reducible apply CurB.cur_drew | ((with_reducible refine CurB.cur_set HAL.out ?_ ?_ ?_ _); (focus (first | omega | (dsimp only; done) | (dsimp only; omega))); (focus (first | omega | (dsimp only; omega))))))) (by omega) (by omega)).mono ?_; rintro e w8 ⟨q, ys, L, d, hq, hys, hbo, rfl, C0, hg0⟩; (first | replace HPI := Lib.hid (ss_grown HPI.out hg0 (by omega)) | replace HPI := Lib.hid (ss_grown (w := w7.drew) HPI.out hg0 (by omega))); replace r0 : Bk.Blk w8 (w.heap.size) 27 #[.int .i64 0, .slice none 0 0, .int .i64 0] := Bk.Blk.grown hg0 (by omega) (by exact Bk.sv); replace bk : Bk.Blk w8 (w3.heap.size) 27 #[.int .i64 pe, .slice Ap N cp, .int .i64 lo] := Bk.Blk.grown hg0 (by omega) (by exact Bk.sv); replace C := C0; replace G : w.grownBy w8 (some (g)) := World.grownBy.trans (by exact CurB.gv) hg0; have z8 := hg0.size; (try simp only [World.size_alloc, Bk.size_set, World.size_drew, World.drewN] at z8); clear hg0; have HBO := Lib.hid (Rd.of_own hbo); clear hbo; clear cb; have cb := Lay.f3 bk)); refine hK.out _ _ ?_ (fun hHeld => ?_); ((try dsimp only); skip); clear hK K)
        try simp only [Act.put, List.setIfInBounds_toArray, List.set_cons_zero, List.set_cons_succ]
        first | ((refine Reg.tkB 5 (Reg.get rfl) hHeld ?_)) | (refine wpAnyH_ready (rs := [5]) (by kernel_rfl) (by simp) ?_; refine AllReadyH.cons (Reg.get rfl) (fun K hK => ?_) AllReadyH.nil; clear hHeld; go_simp; ((go_at_call 10; refine (keepG_good pe lo Ap N cp b xss L q d ys _ HGD.out (by omega) (by omega) (by first | exact HPI.out.rd | exact OwnSS.rd (w := w8.drew) HPI.out) (by first | exact HBO.out | exact HBO.out.drew)).mono ?_; rintro x w9 ⟨lo2, n2, yss, hg2, A2, c2, rfl, hp, hb0⟩; have HGD2 := Lib.hid hg2; have HPI2 := Lib.hid (hp.wider (show w3.heap.size + 1 ≤ _ by first | omega | (simp; omega)) (Nat.le_refl _)); clear hg2 hp; replace r0 : Bk.Blk w9 (w.heap.size) 27 #[.int .i64 0, .slice none 0 0, .int .i64 0] := Bk.Blk.under hb0 (by exact Bk.sv); replace bk : Bk.Blk w9 (w3.heap.size) 27 #[.int .i64 pe, .slice Ap N cp, .int .i64 lo] := Bk.Blk.under hb0 (by exact Bk.sv); replace C : Cur.Cur w9 (g) A n c bs := Cur.Cur.below (by (repeat (first | with_reducible assumption | with_reducible apply Cur.Cur.alloc | with_reducible apply CurB.cur_drewN | with_reducible apply CurB.cur_drew | ((with_reducible refine CurB.cur_set HAL.out ?_ ?_ ?_ _); (focus (first | omega | (dsimp only; done) | (dsimp only; omega))); (focus (first | omega | (dsimp only; omega))))))) hb0; replace G : w.grownBy w9 (some (g)) := World.grownBy.trans (by exact CurB.gv) (Cur.grown_of_below hb0 _); have z9 := hb0.size; (try simp only [World.size_alloc, Bk.size_set, World.size_drew, World.drewN] at z9); clear hb0; clear cb; have cb := Lay.f3 bk)); refine hK.out _ _ ?_ (fun hHeld => ?_); ((try dsimp only); skip); clear hK K)
        try simp only [Act.put, List.setIfInBounds_toArray, List.set_cons_zero, List.set_cons_succ]
        first | ((refine Reg.tkB 6 (Reg.get rfl) hHeld ?_)) | (refine wpAnyH_ready (rs := [6]) (by kernel_rfl) (by simp) ?_; refine AllReadyH.cons (Reg.get rfl) (fun K hK => ?_) AllReadyH.nil; clear hHeld; go_simp; (skip); refine hK.out _ _ ?_ (fun hHeld => ?_); ((try dsimp only); skip); clear hK K)
        try simp only [Act.put, List.setIfInBounds_toArray, List.set_cons_zero, List.set_cons_succ]
        refine wpAnyH_done (by kernel_rfl) ?_ _
        clear cb
        generalize hW : World.setCell _ _ _ = w10
        replace HPI2 := Lib.hid (show OwnSS w10 (w3.heap.size + 1) w10.heap.size A2 n2 c2 yss from by rw [← hW]; exact ss_set (ss_set (ss_set HPI2.out (by omega)) (by omega)) (by omega))
        replace bk : Bk.Blk w10 (w3.heap.size) 27 #[.int .i64 pe, .slice A2 n2 c2, .int .i64 lo2] := (by rw [← hW]; apply Bk.Blk.to; (focus (exact Bk.sv)); rfl)
        replace r0 : Bk.Blk w10 (w.heap.size) 27 #[.int .i64 0, .slice none 0 0, .int .i64 0] := (by rw [← hW]; exact Bk.sv)
        replace C : Cur.Cur w10 (g) A n c bs := (by rw [← hW]; (repeat (first | with_reducible assumption | with_reducible apply Cur.Cur.alloc | with_reducible apply CurB.cur_drewN | with_reducible apply CurB.cur_drew | ((with_reducible refine CurB.cur_set HAL.out ?_ ?_ ?_ _); (focus (first | omega | (dsimp only; done) | (dsimp only; omega))); (focus (first | omega | (dsimp only; omega)))))))
        replace G : w.grownBy w10 (some (g)) := (by rw [← hW]; exact CurB.gv)
        have z10 : w10.heap.size = _ := congrArg (fun W : World => W.heap.size) hW.symm
        (try simp only [World.size_alloc, Bk.size_set, World.size_drew, World.drewN] at z10)
        clear hW
        go_wp2_with fail
        go_roundw
        case rel => exact ⟨i - 1, lo2, n2, b + 1, yss, A2, c2, by go_num, by omega, by omega, HGD2.out, HPI2.out, r0, bk, C, G⟩
        case measure => simp [intOf]; omega
      
      · skip
        clear hHeld; go_simp; ((go_at_call 88; refine (l1Below_any A n c bs g _ _ (by (repeat (first | with_reducible assumption | with_reducible apply Cur.Cur.alloc | with_reducible apply CurB.cur_drewN | with_reducible apply CurB.cur_drew | ((with_reducible refine CurB.cur_set HAL.out ?_ ?_ ?_ _); (focus (first | omega | (dsimp only; done) | (dsimp only; omega))); (focus (first | omega | (dsimp only; omega))))))) (by omega) (by omega)).mono ?_; rintro e w7 ⟨m, hm, rfl, C0, hg0⟩; (first | replace HPI := Lib.hid (ss_grown HPI.out hg0 (by omega)) | replace HPI := Lib.hid (ss_grown (w := w6.drew) HPI.out hg0 (by omega))); replace r0 : Bk.Blk w7 (w.heap.size) 27 #[.int .i64 0, .slice none 0 0, .int .i64 0] := Bk.Blk.grown hg0 (by omega) (by exact Bk.sv); replace bk : Bk.Blk w7 (w3.heap.size) 27 #[.int .i64 pe, .slice Ap N cp, .int .i64 lo] := Bk.Blk.grown hg0 (by omega) (by exact Bk.sv); replace C := C0; replace G : w.grownBy w7 (some (g)) := World.grownBy.trans (by exact CurB.gv) hg0; have z7 := hg0.size; (try simp only [World.size_alloc, Bk.size_set, World.size_drew, World.drewN] at z7); clear hg0; obtain ⟨m0, m1⟩ := hm; clear cb; have cb := Lay.f3 bk)); refine hK.out _ _ ?_ (fun hHeld => ?_); ((try dsimp only); skip); clear hK K
        try simp only [Act.put, List.setIfInBounds_toArray, List.set_cons_zero, List.set_cons_succ]
        refine wpAnyH_ready (rs := [0, 4]) (by kernel_rfl) (by simp) ?_
        refine (AllReadyH.cons (Reg.get rfl) (fun K hK => ?_) (AllReadyH.cons (Reg.get rfl) (fun K hK => ?_) AllReadyH.nil))
      
        · skip
          clear hHeld; go_simp; (skip); refine hK.out _ _ ?_ (fun hHeld => ?_); ((try dsimp only); skip); clear hK K
          try simp only [Act.put, List.setIfInBounds_toArray, List.set_cons_zero, List.set_cons_succ]
          first | ((refine Reg.tkB 4 (Reg.get rfl) hHeld ?_)) | (refine wpAnyH_ready (rs := [4]) (by kernel_rfl) (by simp) ?_; refine AllReadyH.cons (Reg.get rfl) (fun K hK => ?_) AllReadyH.nil; clear hHeld; go_simp; ((go_at_call 104; refine (Drw.l1Bytes_any A n c bs g m _ (by (repeat (first | with_reducible assumption | with_reducible apply Cur.Cur.alloc | with_reducible apply CurB.cur_drewN | with_reducible apply CurB.cur_drew | ((with_reducible refine CurB.cur_set HAL.out ?_ ?_ ?_ _); (focus (first | omega | (dsimp only; done) | (dsimp only; omega))); (focus (first | omega | (dsimp only; omega))))))) (by omega) (by omega)).mono ?_; rintro e w8 ⟨q, ys, L, d, hq, hys, hbo, rfl, C0, hg0⟩; (first | replace HPI := Lib.hid (ss_grown HPI.out hg0 (by omega)) | replace HPI := Lib.hid (ss_grown (w := w7.drew) HPI.out hg0 (by omega))); replace r0 : Bk.Blk w8 (w.heap.size) 27 #[.int .i64 0, .slice none 0 0, .int .i64 0] := Bk.Blk.grown hg0 (by omega) (by exact Bk.sv); replace bk : Bk.Blk w8 (w3.heap.size) 27 #[.int .i64 pe, .slice Ap N cp, .int .i64 lo] := Bk.Blk.grown hg0 (by omega) (by exact Bk.sv); replace C := C0; replace G : w.grownBy w8 (some (g)) := World.grownBy.trans (by exact CurB.gv) hg0; have z8 := hg0.size; (try simp only [World.size_alloc, Bk.size_set, World.size_drew, World.drewN] at z8); clear hg0; have HBO := Lib.hid (Rd.of_own hbo); clear hbo; clear cb; have cb := Lay.f3 bk)); refine hK.out _ _ ?_ (fun hHeld => ?_); ((try dsimp only); skip); clear hK K)
          try simp only [Act.put, List.setIfInBounds_toArray, List.set_cons_zero, List.set_cons_succ]
          first | ((refine Reg.tkB 5 (Reg.get rfl) hHeld ?_)) | (refine wpAnyH_ready (rs := [5]) (by kernel_rfl) (by simp) ?_; refine AllReadyH.cons (Reg.get rfl) (fun K hK => ?_) AllReadyH.nil; clear hHeld; go_simp; ((go_at_call 10; refine (keepG_good pe lo Ap N cp b xss L q d ys _ HGD.out (by omega) (by omega) (by first | exact HPI.out.rd | exact OwnSS.rd (w := w8.drew) HPI.out) (by first | exact HBO.out | exact HBO.out.drew)).mono ?_; rintro x w9 ⟨lo2, n2, yss, hg2, A2, c2, rfl, hp, hb0⟩; have HGD2 := Lib.hid hg2; have HPI2 := Lib.hid (hp.wider (show w3.heap.size + 1 ≤ _ by first | omega | (simp; omega)) (Nat.le_refl _)); clear hg2 hp; replace r0 : Bk.Blk w9 (w.heap.size) 27 #[.int .i64 0, .slice none 0 0, .int .i64 0] := Bk.Blk.under hb0 (by exact Bk.sv); replace bk : Bk.Blk w9 (w3.heap.size) 27 #[.int .i64 pe, .slice Ap N cp, .int .i64 lo] := Bk.Blk.under hb0 (by exact Bk.sv); replace C : Cur.Cur w9 (g) A n c bs := Cur.Cur.below (by (repeat (first | with_reducible assumption | with_reducible apply Cur.Cur.alloc | with_reducible apply CurB.cur_drewN | with_reducible apply CurB.cur_drew | ((with_reducible refine CurB.cur_set HAL.out ?_ ?_ ?_ _); (focus (first | omega | (dsimp only; done) | (dsimp only; omega))); (focus (first | omega | (dsimp only; omega))))))) hb0; replace G : w.grownBy w9 (some (g)) := World.grownBy.trans (by exact CurB.gv) (Cur.grown_of_below hb0 _); have z9 := hb0.size; (try simp only [World.size_alloc, Bk.size_set, World.size_drew, World.drewN] at z9); clear hb0; clear cb; have cb := Lay.f3 bk)); refine hK.out _ _ ?_ (fun hHeld => ?_); ((try dsimp only); skip); clear hK K)
          try simp only [Act.put, List.setIfInBounds_toArray, List.set_cons_zero, List.set_cons_succ]
          first | ((refine Reg.tkB 6 (Reg.get rfl) hHeld ?_)) | (refine wpAnyH_ready (rs := [6]) (by kernel_rfl) (by simp) ?_; refine AllReadyH.cons (Reg.get rfl) (fun K hK => ?_) AllReadyH.nil; clear hHeld; go_simp; (skip); refine hK.out _ _ ?_ (fun hHeld => ?_); ((try dsimp only); skip); clear hK K)
          try simp only [Act.put, List.setIfInBounds_toArray, List.set_cons_zero, List.set_cons_succ]
          refine wpAnyH_done (by kernel_rfl) ?_ _
          clear cb
          generalize hW : World.setCell _ _ _ = w10
          replace HPI2 := Lib.hid (show OwnSS w10 (w3.heap.size + 1) w10.heap.size A2 n2 c2 yss from by rw [← hW]; exact ss_set (ss_set (ss_set HPI2.out (by omega)) (by omega)) (by omega))
          replace bk : Bk.Blk w10 (w3.heap.size) 27 #[.int .i64 pe, .slice A2 n2 c2, .int .i64 lo2] := (by rw [← hW]; apply Bk.Blk.to; (focus (exact Bk.sv)); rfl)
          replace r0 : Bk.Blk w10 (w.heap.size) 27 #[.int .i64 0, .slice none 0 0, .int .i64 0] := (by rw [← hW]; exact Bk.sv)
          replace C : Cur.Cur w10 (g) A n c bs := (by rw [← hW]; (repeat (first | with_reducible assumption | with_reducible apply Cur.Cur.alloc | with_reducible apply CurB.cur_drewN | with_reducible apply CurB.cur_drew | ((with_reducible refine CurB.cur_set HAL.out ?_ ?_ ?_ _); (focus (first | omega | (dsimp only; done) | (dsimp only; omega))); (focus (first | omega | (dsimp only; omega)))))))
          replace G : w.grownBy w10 (some (g)) := (by rw [← hW]; exact CurB.gv)
          have z10 : w10.heap.size = _ := congrArg (fun W : World => W.heap.size) hW.symm
          (try simp only [World.size_alloc, Bk.size_set, World.size_drew, World.drewN] at z10)
          clear hW
          go_wp2_with fail
          go_roundw
          case rel => exact ⟨i - 1, lo2, n2, b + 1, yss, A2, c2, by go_num, by omega, by omega, HGD2.out, HPI2.out, r0, bk, C, G⟩
          case measure => simp [intOf]; omega
      
        · skip
          clear hHeld; go_simp; ((go_at_call 104; refine (Drw.l1Bytes_any A n c bs g m _ (by (repeat (first | with_reducible assumption | with_reducible apply Cur.Cur.alloc | with_reducible apply CurB.cur_drewN | with_reducible apply CurB.cur_drew | ((with_reducible refine CurB.cur_set HAL.out ?_ ?_ ?_ _); (focus (first | omega | (dsimp only; done) | (dsimp only; omega))); (focus (first | omega | (dsimp only; omega))))))) (by omega) (by omega)).mono ?_; rintro e w8 ⟨q, ys, L, d, hq, hys, hbo, rfl, C0, hg0⟩; (first | replace HPI := Lib.hid (ss_grown HPI.out hg0 (by omega)) | replace HPI := Lib.hid (ss_grown (w := w7.drew) HPI.out hg0 (by omega))); replace r0 : Bk.Blk w8 (w.heap.size) 27 #[.int .i64 0, .slice none 0 0, .int .i64 0] := Bk.Blk.grown hg0 (by omega) (by exact Bk.sv); replace bk : Bk.Blk w8 (w3.heap.size) 27 #[.int .i64 pe, .slice Ap N cp, .int .i64 lo] := Bk.Blk.grown hg0 (by omega) (by exact Bk.sv); replace C := C0; replace G : w.grownBy w8 (some (g)) := World.grownBy.trans (by exact CurB.gv) hg0; have z8 := hg0.size; (try simp only [World.size_alloc, Bk.size_set, World.size_drew, World.drewN] at z8); clear hg0; have HBO := Lib.hid (Rd.of_own hbo); clear hbo; clear cb; have cb := Lay.f3 bk)); refine hK.out _ _ ?_ (fun hHeld => ?_); ((try dsimp only); skip); clear hK K
          try simp only [Act.put, List.setIfInBounds_toArray, List.set_cons_zero, List.set_cons_succ]
          first | ((refine Reg.tkB 0 (Reg.get rfl) hHeld ?_)) | (refine wpAnyH_ready (rs := [0]) (by kernel_rfl) (by simp) ?_; refine AllReadyH.cons (Reg.get rfl) (fun K hK => ?_) AllReadyH.nil; clear hHeld; go_simp; (skip); refine hK.out _ _ ?_ (fun hHeld => ?_); ((try dsimp only); skip); clear hK K)
          try simp only [Act.put, List.setIfInBounds_toArray, List.set_cons_zero, List.set_cons_succ]
          first | ((refine Reg.tkB 5 (Reg.get rfl) hHeld ?_)) | (refine wpAnyH_ready (rs := [5]) (by kernel_rfl) (by simp) ?_; refine AllReadyH.cons (Reg.get rfl) (fun K hK => ?_) AllReadyH.nil; clear hHeld; go_simp; ((go_at_call 10; refine (keepG_good pe lo Ap N cp b xss L q d ys _ HGD.out (by omega) (by omega) (by first | exact HPI.out.rd | exact OwnSS.rd (w := w8.drew) HPI.out) (by first | exact HBO.out | exact HBO.out.drew)).mono ?_; rintro x w9 ⟨lo2, n2, yss, hg2, A2, c2, rfl, hp, hb0⟩; have HGD2 := Lib.hid hg2; have HPI2 := Lib.hid (hp.wider (show w3.heap.size + 1 ≤ _ by first | omega | (simp; omega)) (Nat.le_refl _)); clear hg2 hp; replace r0 : Bk.Blk w9 (w.heap.size) 27 #[.int .i64 0, .slice none 0 0, .int .i64 0] := Bk.Blk.under hb0 (by exact Bk.sv); replace bk : Bk.Blk w9 (w3.heap.size) 27 #[.int .i64 pe, .slice Ap N cp, .int .i64 lo] := Bk.Blk.under hb0 (by exact Bk.sv); replace C : Cur.Cur w9 (g) A n c bs := Cur.Cur.below (by (repeat (first | with_reducible assumption | with_reducible apply Cur.Cur.alloc | with_reducible apply CurB.cur_drewN | with_reducible apply CurB.cur_drew | ((with_reducible refine CurB.cur_set HAL.out ?_ ?_ ?_ _); (focus (first | omega | (dsimp only; done) | (dsimp only; omega))); (focus (first | omega | (dsimp only; omega))))))) hb0; replace G : w.grownBy w9 (some (g)) := World.grownBy.trans (by exact CurB.gv) (Cur.grown_of_below hb0 _); have z9 := hb0.size; (try simp only [World.size_alloc, Bk.size_set, World.size_drew, World.drewN] at z9); clear hb0; clear cb; have cb := Lay.f3 bk)); refine hK.out _ _ ?_ (fun hHeld => ?_); ((try dsimp only); skip); clear hK K)
          try simp only [Act.put, List.setIfInBounds_toArray, List.set_cons_zero, List.set_cons_succ]
          first | ((refine Reg.tkB 6 (Reg.get rfl) hHeld ?_)) | (refine wpAnyH_ready (rs := [6]) (by kernel_rfl) (by simp) ?_; refine AllReadyH.cons (Reg.get rfl) (fun K hK => ?_) AllReadyH.nil; clear hHeld; go_simp; (skip); refine hK.out _ _ ?_ (fun hHeld => ?_); ((try dsimp only); skip); clear hK K)
          try simp only [Act.put, List.setIfInBounds_toArray, List.set_cons_zero, List.set_cons_succ]
          refine wpAnyH_done (by kernel_rfl) ?_ _
          clear cb
          generalize hW : World.setCell _ _ _ = w10
          replace HPI2 := Lib.hid (show OwnSS w10 (w3.heap.size + 1) w10.heap.size A2 n2 c2 yss from by rw [← hW]; exact ss_set (ss_set (ss_set HPI2.out (by omega)) (by omega)) (by omega))
          replace bk : Bk.Blk w10 (w3.heap.size) 27 #[.int .i64 pe, .slice A2 n2 c2, .int .i64 lo2] := (by rw [← hW]; apply Bk.Blk.to; (focus (exact Bk.sv)); rfl)
          replace r0 : Bk.Blk w10 (w.heap.size) 27 #[.int .i64 0, .slice none 0 0, .int .i64 0] := (by rw [← hW]; exact Bk.sv)
          replace C : Cur.Cur w10 (g) A n c bs := (by rw [← hW]; (repeat (first | with_reducible assumption | with_reducible apply Cur.Cur.alloc | with_reducible apply CurB.cur_drewN | with_reducible apply CurB.cur_drew | ((with_reducible refine CurB.cur_set HAL.out ?_ ?_ ?_ _); (focus (first | omega | (dsimp only; done) | (dsimp only; omega))); (focus (first | omega | (dsimp only; omega)))))))
          replace G : w.grownBy w10 (some (g)) := (by rw [← hW]; exact CurB.gv)
          have z10 : w10.heap.size = _ := congrArg (fun W : World => W.heap.size) hW.symm
          (try simp only [World.size_alloc, Bk.size_set, World.size_drew, World.drewN] at z10)
          clear hW
          go_wp2_with fail
          go_roundw
          case rel => exact ⟨i - 1, lo2, n2, b + 1, yss, A2, c2, by go_num, by omega, by omega, HGD2.out, HPI2.out, r0, bk, C, G⟩
          case measure => simp [intOf]; omega
    · skip
      have L_bk := Lay.f3 bk
      have L_r0 := Lay.f3 r0
      go_wp2_with fail
      clear L_bk L_r0
      generalize hW : World.setCell _ _ _ = w20
      have HP2 := Lib.hid (show OwnSS w20 w.heap.size w20.heap.size Ap N cp xss from by rw [← hW]; exact (ss_set (ss_set (ss_set HPI.out (by omega)) (by omega)) (by omega)).wider (by omega) (Nat.le_refl _))
      replace r0 : Bk.Blk w20 (w.heap.size) 27 #[.int .i64 pe, .slice Ap N cp, .int .i64 lo] := (by rw [← hW]; apply Bk.Blk.to; (focus (exact Bk.sv)); rfl)
      replace C : Cur.Cur w20 (g) A n c bs := (by rw [← hW]; (repeat (first | with_reducible assumption | with_reducible apply Cur.Cur.alloc | with_reducible apply CurB.cur_drewN | with_reducible apply CurB.cur_drew | ((with_reducible refine CurB.cur_set HAL.out ?_ ?_ ?_ _); (focus (first | omega | (dsimp only; done) | (dsimp only; omega))); (focus (first | omega | (dsimp only; omega)))))))
      replace G : w.grownBy w20 (some (g)) := (by rw [← hW]; exact CurB.gv)
      have z20 : w20.heap.size = _ := congrArg (fun W : World => W.heap.size) hW.symm
      (try simp only [World.size_alloc, Bk.size_set, World.size_drew, World.drewN] at z20)
      clear hW
      have L_r0 := Lay.c3 r0
      go_wp2
      refine bodyPost_ret (v := .agg #[.int .i64 pe, .slice Ap N cp, .int .i64 lo]) (by simp [results, Try.results95, go_sem, L_r0]) rfl (⟨pe, lo, N, xss, Ap, cp, HGD.out.mono (by omega), HP2.out, rfl, C, G⟩)
end Go.Proofs.Ythdieeaegplnmaa.Gb
