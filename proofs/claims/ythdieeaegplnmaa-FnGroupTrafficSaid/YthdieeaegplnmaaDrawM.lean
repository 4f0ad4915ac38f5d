/- The draw of a group buffer, valid or not. -/
import Derived.Test.YthdieeaegplnmaaDrawL
namespace Go.Proofs.Ythdieeaegplnmaa.Gb
open Go.RowKit
open Go.Proofs.Ythdieeaegplnmaa.Num Go.Proofs.Ythdieeaegplnmaa.Mem Go.Proofs.Ythdieeaegplnmaa.Hsh Go.Proofs.Ythdieeaegplnmaa.Sls Go.Proofs.Ythdieeaegplnmaa.Own Go.Proofs.Ythdieeaegplnmaa.SS Go.Proofs.Ythdieeaegplnmaa.Bcn Go.Proofs.Ythdieeaegplnmaa.Cur
set_option linter.unusedSimpArgs false
set_option linter.unusedVariables false
/-- make at an operation of a drawn region -/
theorem wp_make {P : Program} (w : World) {o : Oper} {a : Act} {K : Act → World → Prop} {Q : Exit → Act → World → Prop} (l c : Operand) (t : TypeId) (hop : o.op = Op.makeSlice t l c)
    (base : Nat) (e : TypeId) (i : TypeInfo) (z : Value) (size : Nat) (h1 : P.underlying t = some (.slice e)) (h2 : P.info? e = some i) (h3 : i.zero = some z) (h4 : i.size = size)
    (kl kc : IntKind) (L C : Int) (n : Nat) (hl : a.eval l = .int kl L) (hc : a.eval c = .int kc C) (hL : L = (n : Int)) (hC : C = (n : Int)) (b2 : i.bytes * n ≤ 281474976710656) (b3 : n ≤ maxLen) (b4 : base ≤ w.heap.size)
    (hK : ∀ w', w'.ownsRow base e size (.slice (some ⟨w.heap.size, 0, none⟩) n n) n (madeCells z.cells (n * size)).toList → w.grownBy w' none → K (a.put o.dst (.slice (some ⟨w.heap.size, 0, none⟩) n n)) w') :
    o.wp P a w K Q := by
  obtain ⟨w', hrun, r1, r2⟩ := run_make_full (P := P) w base t e i z size h1 h2 h3 h4 kl kc n b2 b3 b4
  subst hL
  subst hC
  unfold Oper.wp
  simp [execOp, hop, hl, hc, hrun, Result.andThen]
  exact hK w' r1 r2
theorem below_made {w w' : World} (hg : w.grownBy w' none) : Below w.heap.size w w' := (Below.refl _ _).grown hg (Nat.le_refl _) (fun k h => by cases h)
theorem made_zero (n : Nat) : (madeCells (Value.int .u8 0).cells (n * 1)).toList = (List.replicate n (0 : Int)).map (Value.int .u8) := by
  rw [Nat.mul_one, List.map_replicate]
  exact toList_madeCells_one _ _
theorem short_snoc {xss : List (List Int)} {bs : List Int} (h : AllShort xss) (hb : bs.length ≤ 2097152) : AllShort (xss ++ [bs]) := fun i => by
  rw [List.getD_eq_getElem?_getD]
  rcases Nat.lt_or_ge i xss.length with h3 | h3
  · rw [List.getElem?_append_left h3, ← List.getD_eq_getElem?_getD]; exact h i
  · rw [List.getElem?_append_right h3]
    cases hx : ([bs] : List (List Int))[i - xss.length]? with
    | none => simp
    | some x =>
      have := List.mem_of_getElem? hx
      simp at this
      simp [this]; exact hb
theorem tri_in {v : Int} (h : v ∈ ([0, 8, 9] : List Int)) : 0 ≤ v ∧ v ≤ 9 := by
  simp at h; omega
theorem l27B2 (A : Option Addr) (n c : Nat) (bs : List Int) (g : Nat) (w : World) (hcur : Cur w g A n c bs) :
    Calls Try.prog 95 #[.pointer (some ⟨g, 0, none⟩)] w fun e w' => ∃ (pe lo : Int) (N : Nat) (xss : List (List Int)) (Ag : Option Addr) (cg : Nat), GoodG pe lo xss N 8 ∧ OwnSS w' w.heap.size w'.heap.size Ag N cg xss ∧ e = .returned (.agg #[.int .i64 pe, .slice Ag N cg, .int .i64 lo]) ∧ Cur w' g A n c bs ∧ w.grownBy w' (some g) := l27Buffer_any A n c bs g w hcur
/-- a group buffer has been drawn into new memory -/
def DrewGa (w : World) (g : Nat) (A : Option Addr) (n c : Nat) (bs : List Int) (e : Ending) (w' : World) : Prop :=
  ∃ (pe lo : Int) (N : Nat) (xss : List (List Int)) (Ag : Option Addr) (cg : Nat), ((0 ≤ pe ∧ pe ≤ 9) ∧ (-1 ≤ lo ∧ lo ≤ 8) ∧ N ≤ 7 ∧ AllShort xss) ∧ OwnSS w' w.heap.size w'.heap.size Ag N cg xss ∧ e = .returned (.agg #[.int .i64 pe, .slice Ag N cg, .int .i64 lo]) ∧ Cur w' g A n c bs ∧ w.grownBy w' (some g)
set_option maxRecDepth 100000 in
set_option maxHeartbeats 16000000 in
theorem l27Any_any (A : Option Addr) (n c : Nat) (bs : List Int) (g : Nat) (w : World) (hcur : Cur w g A n c bs) :
    Calls Try.prog 66 #[.pointer (some ⟨g, 0, none⟩)] w (DrewGa w g A n c bs) := by
  obtain ⟨ip, hip, hp0, hp1, hp2⟩ := info_parts ssInfo
  obtain ⟨iu, hiu, hu0, hu1, hu2⟩ := info_parts uInfo
  have HAL := Lib.hid (CurB.old_cur hcur)
  have hgl := hcur.lt
  have C := hcur
  have G : w.grownBy w (some g) := World.grownBy.refl _ _
  clear hcur
  go_enter Try.func66, Try.ntmps66
  go_wp2_with fail
  generalize hW : World.alloc _ _ = w1
  have r0 : Bk.Blk w1 (w.heap.size) 27 #[.int .i64 0, .slice none 0 0, .int .i64 0] := (by rw [← hW]; apply Bk.Blk.to; (focus (exact Bk.sv)); rfl)
  replace C : Cur.Cur w1 (g) A n c bs := (by rw [← hW]; (repeat (first | with_reducible assumption | with_reducible apply Cur.Cur.alloc | with_reducible apply CurB.cur_drewN | with_reducible apply CurB.cur_drew | ((with_reducible refine CurB.cur_set HAL.out ?_ ?_ ?_ _); (focus (first | omega | (dsimp only; done) | (dsimp only; omega))); (focus (first | omega | (dsimp only; omega)))))))
  replace G : w.grownBy w1 (some (g)) := (by rw [← hW]; exact CurB.gv)
  have z1 : w1.heap.size = _ := congrArg (fun W : World => W.heap.size) hW.symm
  (try simp only [World.size_alloc, Bk.size_set, World.size_drew, World.drewN] at z1)
  clear hW
  go_wp2_with fail
  refine (l27B2 A n c bs g _ (by (repeat (first | with_reducible assumption | with_reducible apply Cur.Cur.alloc | with_reducible apply CurB.cur_drewN | with_reducible apply CurB.cur_drew | ((with_reducible refine CurB.cur_set HAL.out ?_ ?_ ?_ _); (focus (first | omega | (dsimp only; done) | (dsimp only; omega))); (focus (first | omega | (dsimp only; omega)))))))).mono ?_
  rintro x w2 ⟨pe, lo, N, xss, Ag, cg, hgd, hss, rfl, C0, hg0⟩
  have HGD := Lib.hid hgd
  have HSS := Lib.hid hss
  clear hgd hss
  replace r0 : Bk.Blk w2 (w.heap.size) 27 #[.int .i64 0, .slice none 0 0, .int .i64 0] := Bk.Blk.grown hg0 (by omega) (by exact Bk.sv)
  replace C := C0
  replace G : w.grownBy w2 (some (g)) := World.grownBy.trans (by exact CurB.gv) hg0
  have z2 := hg0.size
  (try simp only [World.size_alloc, Bk.size_set, World.size_drew, World.drewN] at z2)
  clear hg0
  go_wp2_with fail
  generalize hW : World.alloc _ _ = w3
  replace HSS := Lib.hid (HSS.out.keep (w' := w3) fun q _ h2 => by rw [← hW]; exact Below.heap_alloc _ _ q h2)
  have bk : Bk.Blk w3 (w2.heap.size) 27 #[.int .i64 pe, .slice Ag N cg, .int .i64 lo] := (by rw [← hW]; apply Bk.Blk.to; (focus (exact Bk.sv)); rfl)
  replace r0 : Bk.Blk w3 (w.heap.size) 27 #[.int .i64 0, .slice none 0 0, .int .i64 0] := (by rw [← hW]; exact Bk.sv)
  replace C : Cur.Cur w3 (g) A n c bs := (by rw [← hW]; (repeat (first | with_reducible assumption | with_reducible apply Cur.Cur.alloc | with_reducible apply CurB.cur_drewN | with_reducible apply CurB.cur_drew | ((with_reducible refine CurB.cur_set HAL.out ?_ ?_ ?_ _); (focus (first | omega | (dsimp only; done) | (dsimp only; omega))); (focus (first | omega | (dsimp only; omega)))))))
  replace G : w.grownBy w3 (some (g)) := (by rw [← hW]; exact CurB.gv)
  have z3 : w3.heap.size = _ := congrArg (fun W : World => W.heap.size) hW.symm
  (try simp only [World.size_alloc, Bk.size_set, World.size_drew, World.drewN] at z3)
  clear hW
  go_wp2_with fail
  refine (l1Below_any A n c bs g _ _ (by (repeat (first | with_reducible assumption | with_reducible apply Cur.Cur.alloc | with_reducible apply CurB.cur_drewN | with_reducible apply CurB.cur_drew | ((with_reducible refine CurB.cur_set HAL.out ?_ ?_ ?_ _); (focus (first | omega | (dsimp only; done) | (dsimp only; omega))); (focus (first | omega | (dsimp only; omega))))))) (by omega) (by omega)).mono ?_
  rintro x w4 ⟨y, hy, rfl, C0, hg0⟩
  replace HSS := Lib.hid (HSS.out.keep (w' := w4) fun q h1 h2 => hg0.block q (by omega) (fun e => by injection e with e; omega))
  replace r0 : Bk.Blk w4 (w.heap.size) 27 #[.int .i64 0, .slice none 0 0, .int .i64 0] := Bk.Blk.grown hg0 (by omega) (by exact Bk.sv)
  replace bk : Bk.Blk w4 (w2.heap.size) 27 #[.int .i64 pe, .slice Ag N cg, .int .i64 lo] := Bk.Blk.grown hg0 (by omega) (by exact Bk.sv)
  replace C := C0
  replace G : w.grownBy w4 (some (g)) := World.grownBy.trans (by exact CurB.gv) hg0
  have z4 := hg0.size
  (try simp only [World.size_alloc, Bk.size_set, World.size_drew, World.drewN] at z4)
  clear hg0
  have hb1 := HGD.out.1.1
  have hb2 := HGD.out.2.2
  have HSH := Lib.hid (GoodG.short HGD.out)
  obtain ⟨⟨hb3, hb4⟩, hN6, hb5⟩ := hb1
  clear HGD
  by_cases h0 : y = 0
  · have e0 : (y == 0) = true := by simpa using h0
    clear h0
    go_wp2_with fail
    generalize hW : World.alloc _ _ = w5
    have RL := Lib.hid (show Rd w5 1 (some ⟨w4.heap.size, 0, none⟩) 3 3 (([0, 8, 9] : List Int).map (Value.int .i64)) from by rw [← hW]; exact Rd.litAt _ (([0, 8, 9] : List Int).map (Value.int .i64)) _ 3 _ rfl rfl (by unfold maxLen; omega))
    replace HSS := Lib.hid (HSS.out.keep (w' := w5) fun q _ h2 => by rw [← hW]; exact Below.heap_alloc _ _ q (by omega))
    replace r0 : Bk.Blk w5 (w.heap.size) 27 #[.int .i64 0, .slice none 0 0, .int .i64 0] := (by rw [← hW]; exact Bk.sv)
    replace bk : Bk.Blk w5 (w2.heap.size) 27 #[.int .i64 pe, .slice Ag N cg, .int .i64 lo] := (by rw [← hW]; exact Bk.sv)
    replace C : Cur.Cur w5 (g) A n c bs := (by rw [← hW]; (repeat (first | with_reducible assumption | with_reducible apply Cur.Cur.alloc | with_reducible apply CurB.cur_drewN | with_reducible apply CurB.cur_drew | ((with_reducible refine CurB.cur_set HAL.out ?_ ?_ ?_ _); (focus (first | omega | (dsimp only; done) | (dsimp only; omega))); (focus (first | omega | (dsimp only; omega)))))))
    replace G : w.grownBy w5 (some (g)) := (by rw [← hW]; exact CurB.gv)
    have z5 : w5.heap.size = _ := congrArg (fun W : World => W.heap.size) hW.symm
    (try simp only [World.size_alloc, Bk.size_set, World.size_drew, World.drewN] at z5)
    clear hW
    refine (l1Int_any A n c bs g _ 3 3 [0, 8, 9] _ (by (repeat (first | with_reducible assumption | with_reducible apply Cur.Cur.alloc | with_reducible apply CurB.cur_drewN | with_reducible apply CurB.cur_drew | ((with_reducible refine CurB.cur_set HAL.out ?_ ?_ ?_ _); (focus (first | omega | (dsimp only; done) | (dsimp only; omega))); (focus (first | omega | (dsimp only; omega))))))) RL.out (fun e => by have := C.lt; simp [blk] at e; omega) (by omega) (by omega)).mono ?_
    rintro e w6 ⟨v, hv, rfl, C0, hg0⟩
    replace HSS := Lib.hid (HSS.out.keep (w' := w6) fun q h1 h2 => hg0.block q (by omega) (fun e => by injection e with e; omega))
    have hvb := tri_in hv
    clear RL hv
    replace r0 : Bk.Blk w6 (w.heap.size) 27 #[.int .i64 0, .slice none 0 0, .int .i64 0] := Bk.Blk.grown hg0 (by omega) (by exact Bk.sv)
    replace bk : Bk.Blk w6 (w2.heap.size) 27 #[.int .i64 pe, .slice Ag N cg, .int .i64 lo] := Bk.Blk.grown hg0 (by omega) (by exact Bk.sv)
    replace C := C0
    replace G : w.grownBy w6 (some (g)) := World.grownBy.trans (by exact CurB.gv) hg0
    have z6 := hg0.size
    (try simp only [World.size_alloc, Bk.size_set, World.size_drew, World.drewN] at z6)
    clear hg0
    have L_bk := Lay.f3 bk
    have L_r0 := Lay.f3 r0
    go_wp2_with fail
    clear L_bk L_r0
    generalize hW : World.setCell _ _ _ = w7
    have HP2 := Lib.hid (show OwnSS w7 w.heap.size w7.heap.size Ag N cg xss from (HSS.out.keep (w' := w7) fun q h1 h2 => by rw [← hW]; (repeat refine (Below.heap_setCell _ _ _ q (by simp; omega)).trans ?_); rfl).wider (by omega) (by rw [← hW]; simp only [Bk.size_set]; omega))
    replace r0 : Bk.Blk w7 (w.heap.size) 27 #[.int .i64 v, .slice Ag N cg, .int .i64 lo] := (by rw [← hW]; apply Bk.Blk.to; (focus (exact Bk.sv)); rfl)
    replace C : Cur.Cur w7 (g) A n c bs := (by rw [← hW]; (repeat (first | with_reducible assumption | with_reducible apply Cur.Cur.alloc | with_reducible apply CurB.cur_drewN | with_reducible apply CurB.cur_drew | ((with_reducible refine CurB.cur_set HAL.out ?_ ?_ ?_ _); (focus (first | omega | (dsimp only; done) | (dsimp only; omega))); (focus (first | omega | (dsimp only; omega)))))))
    replace G : w.grownBy w7 (some (g)) := (by rw [← hW]; exact CurB.gv)
    have z7 : w7.heap.size = _ := congrArg (fun W : World => W.heap.size) hW.symm
    (try simp only [World.size_alloc, Bk.size_set, World.size_drew, World.drewN] at z7)
    clear hW
    have L_r0 := Lay.c3 r0
    go_wp2
    refine bodyPost_ret (v := .agg #[.int .i64 v, .slice Ag N cg, .int .i64 lo]) (by simp [results, Try.results66, go_sem, L_r0]) rfl (⟨v, lo, N, xss, Ag, cg, ⟨⟨hvb.1, hvb.2⟩, ⟨by omega, by omega⟩, by omega, HSH.out⟩, HP2.out, rfl, C, G⟩)
  · have e0 : (y == 0) = false := by simpa using h0
    by_cases h1 : y = 1
    · have e1 : (y == 1) = true := by simpa using h1
      clear h0 h1
      have L_bk := Lay.f3 bk
      have L_r0 := Lay.f3 r0
      go_wp2_with fail
      clear L_bk L_r0
      generalize hW : World.setCell _ _ _ = w7
      have HP2 := Lib.hid (show OwnSS w7 w.heap.size w7.heap.size Ag N cg xss from (HSS.out.keep (w' := w7) fun q h1 h2 => by rw [← hW]; (repeat refine (Below.heap_setCell _ _ _ q (by simp; omega)).trans ?_); rfl).wider (by omega) (by rw [← hW]; simp only [Bk.size_set]; omega))
      replace r0 : Bk.Blk w7 (w.heap.size) 27 #[.int .i64 pe, .slice Ag N cg, .int .i64 (-1)] := (by rw [← hW]; apply Bk.Blk.to; (focus (exact Bk.sv)); rfl)
      replace C : Cur.Cur w7 (g) A n c bs := (by rw [← hW]; (repeat (first | with_reducible assumption | with_reducible apply Cur.Cur.alloc | with_reducible apply CurB.cur_drewN | with_reducible apply CurB.cur_drew | ((with_reducible refine CurB.cur_set HAL.out ?_ ?_ ?_ _); (focus (first | omega | (dsimp only; done) | (dsimp only; omega))); (focus (first | omega | (dsimp only; omega)))))))
      replace G : w.grownBy w7 (some (g)) := (by rw [← hW]; exact CurB.gv)
      have z7 : w7.heap.size = _ := congrArg (fun W : World => W.heap.size) hW.symm
      (try simp only [World.size_alloc, Bk.size_set, World.size_drew, World.drewN] at z7)
      clear hW
      have L_r0 := Lay.c3 r0
      go_wp2
      refine bodyPost_ret (v := .agg #[.int .i64 pe, .slice Ag N cg, .int .i64 (-1)]) (by simp [results, Try.results66, go_sem, L_r0]) rfl (⟨pe, -1, N, xss, Ag, cg, ⟨⟨by omega, by omega⟩, ⟨by omega, by omega⟩, by omega, HSH.out⟩, HP2.out, rfl, C, G⟩)
    · have e1 : (y == 1) = false := by simpa using h1
      by_cases h2 : y = 2
      · have e2 : (y == 2) = true := by simpa using h2
        clear h0 h1 h2
        obtain ⟨hx0, ss, hls, hpo, hin⟩ := HSS.out
        have HX := Lib.hid hx0
        have HL := Lib.hid hls
        have HPO := hpo
        have HI := hin
        clear hx0 hls hpo hin HSS
        go_wp2_with fail
        have cb := Lay.f3 bk
        refine wp_region_held_drew (S := (fun _ => True)) (by kernel_rfl) ?_ (fun hHeld => ?_)
        · (try dsimp only); skip
        first | refine Reg.tkA 0 (Reg.get rfl) hHeld ?_ | refine Reg.tkB 0 (Reg.get rfl) hHeld ?_
        try simp only [Act.put, List.setIfInBounds_toArray, List.set_cons_zero, List.set_cons_succ]
        first | refine Reg.tkA 2 (Reg.get rfl) hHeld ?_ | refine Reg.tkB 2 (Reg.get rfl) hHeld ?_
        try simp only [Act.put, List.setIfInBounds_toArray, List.set_cons_zero, List.set_cons_succ]
        refine wpAnyH_ready (rs := [1, 3]) (by kernel_rfl) (by simp) ?_
        refine (AllReadyH.cons (Reg.get rfl) (fun K hK => ?_) (AllReadyH.cons (Reg.get rfl) (fun K hK => ?_) AllReadyH.nil))
        
        · skip
          clear hHeld; go_simp; (skip); refine hK.out _ _ ?_ (fun hHeld => ?_); ((try dsimp only); skip); clear hK K
          try simp only [Act.put, List.setIfInBounds_toArray, List.set_cons_zero, List.set_cons_succ]
          first | ((refine Reg.tkB 3 (Reg.get rfl) hHeld ?_)) | (refine wpAnyH_ready (rs := [3]) (by kernel_rfl) (by simp) ?_; refine AllReadyH.cons (Reg.get rfl) (fun K hK => ?_) AllReadyH.nil; clear hHeld; go_simp; ((go_at_call 88; refine (l1Below_any A n c bs g _ _ (by (repeat (first | with_reducible assumption | with_reducible apply Cur.Cur.alloc | with_reducible apply CurB.cur_drewN | with_reducible apply CurB.cur_drew | ((with_reducible refine CurB.cur_set HAL.out ?_ ?_ ?_ _); (focus (first | omega | (dsimp only; done) | (dsimp only; omega))); (focus (first | omega | (dsimp only; omega))))))) (by omega) (by omega)).mono ?_; rintro e w5 ⟨t, ht, rfl, C0, hg0⟩; replace HPO := HPO.keep (w' := w5) (fun q h1 h2 => hg0.block q (by first | omega | (simp; omega)) (fun e => by injection e with e; omega)); replace HI := HI.keep (w' := w5) (fun q h1 h2 => hg0.block q (by first | omega | (simp; omega)) (fun e => by injection e with e; omega)); replace r0 : Bk.Blk w5 (w.heap.size) 27 #[.int .i64 0, .slice none 0 0, .int .i64 0] := Bk.Blk.grown hg0 (by omega) (by exact Bk.sv); replace bk : Bk.Blk w5 (w2.heap.size) 27 #[.int .i64 pe, .slice Ag N cg, .int .i64 lo] := Bk.Blk.grown hg0 (by omega) (by exact Bk.sv); replace C := C0; replace G : w.grownBy w5 (some (g)) := World.grownBy.trans (by exact CurB.gv) hg0; have z5 := hg0.size; (try simp only [World.size_alloc, Bk.size_set, World.size_drew, World.drewN] at z5); clear hg0; obtain ⟨t0, t1⟩ := ht; obtain ⟨tn, rfl⟩ := Int.eq_ofNat_of_zero_le t0; have hwr : IntKind.i64.wrap (100 + (tn : Int)) = ((100 + tn : Nat) : Int) := (by rw [IntWalk.i64_left, IntWalk.wrap64_in _ ⟨by omega, by omega⟩]; omega); clear cb; have cb := Lay.f3 bk)); refine hK.out _ _ ?_ (fun hHeld => ?_); ((try dsimp only); skip); clear hK K)
          try simp only [Act.put, List.setIfInBounds_toArray, List.set_cons_zero, List.set_cons_succ]
          first | refine Reg.tkA 4 (Reg.get rfl) hHeld ?_ | refine Reg.tkB 4 (Reg.get rfl) hHeld ?_
          try simp only [Act.put, List.setIfInBounds_toArray, List.set_cons_zero, List.set_cons_succ]
          first | ((refine Reg.tkB 5 (Reg.get rfl) hHeld ?_)) | (refine wpAnyH_ready (rs := [5]) (by kernel_rfl) (by simp) ?_; refine AllReadyH.cons (Reg.get rfl) (fun K hK => ?_) AllReadyH.nil; clear hHeld; ((refine wp_make _ _ _ 25 rfl w4.heap.size 5 iu (.int .u8 0) 1 Try.underlying25 hiu hu0 hu1 .i64 .i64 _ _ (100 + tn) rfl rfl rfl rfl (by rw [hu2]; omega) (by unfold maxLen; omega) (by first | omega | (simp; omega)) ?_; intro w6 own6 hgm; have hb0 := below_made hgm; rw [made_zero] at own6; have RZ := own6; clear own6 hgm; replace HPO := HPO.keep (w' := w6) (fun q h1 h2 => hb0.block q (by first | omega | (simp; omega))); replace HI := HI.keep (w' := w6) (fun q h1 h2 => hb0.block q (by first | omega | (simp; omega))); replace r0 : Bk.Blk w6 (w.heap.size) 27 #[.int .i64 0, .slice none 0 0, .int .i64 0] := Bk.Blk.under hb0 (by exact Bk.sv); replace bk : Bk.Blk w6 (w2.heap.size) 27 #[.int .i64 pe, .slice Ag N cg, .int .i64 lo] := Bk.Blk.under hb0 (by exact Bk.sv); replace C : Cur.Cur w6 (g) A n c bs := Cur.Cur.below (by (repeat (first | with_reducible assumption | with_reducible apply Cur.Cur.alloc | with_reducible apply CurB.cur_drewN | with_reducible apply CurB.cur_drew | ((with_reducible refine CurB.cur_set HAL.out ?_ ?_ ?_ _); (focus (first | omega | (dsimp only; done) | (dsimp only; omega))); (focus (first | omega | (dsimp only; omega))))))) hb0; replace G : w.grownBy w6 (some (g)) := World.grownBy.trans (by exact CurB.gv) (Cur.grown_of_below hb0 _); have z6 := hb0.size; (try simp only [World.size_alloc, Bk.size_set, World.size_drew, World.drewN] at z6); clear hb0; clear cb; have cb := Lay.f3 bk)); refine hK.out _ _ ?_ (fun hHeld => ?_); ((try dsimp only); skip); clear hK K)
          try simp only [Act.put, List.setIfInBounds_toArray, List.set_cons_zero, List.set_cons_succ]
          first | ((refine Reg.tkB 6 (Reg.get rfl) hHeld ?_)) | (refine wpAnyH_ready (rs := [6]) (by kernel_rfl) (by simp) ?_; refine AllReadyH.cons (Reg.get rfl) (fun K hK => ?_) AllReadyH.nil; clear hHeld; go_simp; ((generalize hW : World.alloc _ _ = w7; (first | replace HPO := HPO.keep (w' := w7) (fun q h1 h2 => by rw [← hW]; exact Below.heap_alloc _ _ q (by first | omega | (simp; omega)))); (first | replace HI := HI.keep (w' := w7) (fun q h1 h2 => by rw [← hW]; exact Below.heap_alloc _ _ q (by first | omega | (simp; omega)))); (first | replace RZ := own_toA RZ hW | replace RZ := own_toA (own_drewA RZ) hW); have re := rd_oneA hW; replace r0 : Bk.Blk w7 (w.heap.size) 27 #[.int .i64 0, .slice none 0 0, .int .i64 0] := (by rw [← hW]; exact Bk.sv); replace bk : Bk.Blk w7 (w2.heap.size) 27 #[.int .i64 pe, .slice Ag N cg, .int .i64 lo] := (by rw [← hW]; exact Bk.sv); replace C : Cur.Cur w7 (g) A n c bs := (by rw [← hW]; (repeat (first | with_reducible assumption | with_reducible apply Cur.Cur.alloc | with_reducible apply CurB.cur_drewN | with_reducible apply CurB.cur_drew | ((with_reducible refine CurB.cur_set HAL.out ?_ ?_ ?_ _); (focus (first | omega | (dsimp only; done) | (dsimp only; omega))); (focus (first | omega | (dsimp only; omega))))))); replace G : w.grownBy w7 (some (g)) := (by rw [← hW]; exact CurB.gv); have z7 : w7.heap.size = _ := congrArg (fun W : World => W.heap.size) hW.symm; (try simp only [World.size_alloc, Bk.size_set, World.size_drew, World.drewN] at z7); clear hW; clear cb; have cb := Lay.f3 bk)); refine hK.out _ _ ?_ (fun hHeld => ?_); ((try dsimp only); skip); clear hK K)
          try simp only [Act.put, List.setIfInBounds_toArray, List.set_cons_zero, List.set_cons_succ]
          first | ((refine Reg.tkB 7 (Reg.get rfl) hHeld ?_)) | (refine wpAnyH_ready (rs := [7]) (by kernel_rfl) (by simp) ?_; refine AllReadyH.cons (Reg.get rfl) (fun K hK => ?_) AllReadyH.nil; clear hHeld; ((refine App.wp_app _ _ _ 22 rfl w1.heap.size 25 ip (.slice none 0 0) 1 24 Try.underlying22 hip hp0 hp1 hp2 rfl (by decide) _ _ _ _ rfl (by first | exact HPO.1 | exact own_drewA HPO.1) _ 1 1 _ rfl (by first | exact re | exact re.drew) (fun u hu => by simp at hu; subst hu; rfl) (by unfold maxLen; omega) (by omega) (by first | omega | (simp; done) | (simp; omega)) ?_; intro A8 c8 w8 own8 hg8 _; have hP := own_lo HPO.1; have HS := keep_own HX.out HL.out (by first | exact HPO.1 | exact own_drewA HPO.1) (by first | exact HI | exact in_drewA HI) (own_monoA (by first | exact RZ | exact own_drewA RZ) (by omega)) (by omega) hg8 own8 (by first | omega | (simp; done) | (simp; omega)); have z8 := hg8.size; (try simp only [World.size_drew] at z8); (first | replace r0 := blk_grownA hg8 (own_ne HPO.1 r0 (by decide)) r0 | replace r0 := blk_grownA hg8 (own_ne HPO.1 r0 (by decide)) r0.drew); (first | replace bk := blk_grownA hg8 (own_ne HPO.1 bk (by decide)) bk | replace bk := blk_grownA hg8 (own_ne HPO.1 bk (by decide)) bk.drew); have hgA : blk Ag ≠ some g := (by intro e; have := hP _ e; omega); (first | replace C := Drw.cur_grownK hg8 (fun e => hgA e.symm) (fun h0 e => Drw.cur_offK C.2.1 HAL.out hP h0 e (by omega)) C | replace C := Drw.cur_grownK hg8 (fun e => hgA e.symm) (fun h0 e => Drw.cur_offK C.2.1 HAL.out hP h0 e (by omega)) (CurB.cur_drew C)); (first | replace G := Drw.gr_rowK G hg8 (fun q e => Nat.le_trans (by omega) (hP q e)) | replace G := Drw.gr_rowK (CurB.gr_drew G) hg8 (fun q e => Nat.le_trans (by omega) (hP q e))); clear hP hgA hg8 own8 HPO HI RZ re cb; have cb := Lay.f3 bk)); refine hK.out _ _ ?_ (fun hHeld => ?_); ((try dsimp only); skip); clear hK K)
          try simp only [Act.put, List.setIfInBounds_toArray, List.set_cons_zero, List.set_cons_succ]
          first | refine Reg.tkA 8 (Reg.get rfl) hHeld ?_ | refine Reg.tkB 8 (Reg.get rfl) hHeld ?_
          try simp only [Act.put, List.setIfInBounds_toArray, List.set_cons_zero, List.set_cons_succ]
          first | ((refine Reg.tkB 9 (Reg.get rfl) hHeld ?_)) | (refine wpAnyH_ready (rs := [9]) (by kernel_rfl) (by simp) ?_; refine AllReadyH.cons (Reg.get rfl) (fun K hK => ?_) AllReadyH.nil; clear hHeld; go_simp; (skip); refine hK.out _ _ ?_ (fun hHeld => ?_); ((try dsimp only); skip); clear hK K)
          try simp only [Act.put, List.setIfInBounds_toArray, List.set_cons_zero, List.set_cons_succ]
          refine wpAnyH_done (by kernel_rfl) ?_ _
          clear cb
          generalize hW : World.setCell _ _ _ = w9
          have HS9 := Lib.hid (show OwnSS w9 w1.heap.size w8.heap.size A8 (N + 1) c8 _ from by rw [← hW]; exact ownSS_far HS bk (by decide) (by decide) _)
          replace bk : Bk.Blk w9 (w2.heap.size) 27 #[.int .i64 pe, .slice A8 (N + 1) c8, .int .i64 lo] := (by rw [← hW]; apply Bk.Blk.to; (focus (exact Bk.sv)); rfl)
          replace r0 : Bk.Blk w9 (w.heap.size) 27 #[.int .i64 0, .slice none 0 0, .int .i64 0] := (by rw [← hW]; exact Bk.sv)
          replace C : Cur.Cur w9 (g) A n c bs := (by rw [← hW]; (repeat (first | with_reducible assumption | with_reducible apply Cur.Cur.alloc | with_reducible apply CurB.cur_drewN | with_reducible apply CurB.cur_drew | ((with_reducible refine CurB.cur_set HAL.out ?_ ?_ ?_ _); (focus (first | omega | (dsimp only; done) | (dsimp only; omega))); (focus (first | omega | (dsimp only; omega)))))))
          replace G : w.grownBy w9 (some (g)) := (by rw [← hW]; exact CurB.gv)
          have z9 : w9.heap.size = _ := congrArg (fun W : World => W.heap.size) hW.symm
          (try simp only [World.size_alloc, Bk.size_set, World.size_drew, World.drewN] at z9)
          clear hW
          clear HS
          have L_bk := Lay.f3 bk
          have L_r0 := Lay.f3 r0
          go_wp2_with fail
          clear L_bk L_r0
          generalize hW : World.setCell _ _ _ = w10
          have HS10 := Lib.hid (show OwnSS w10 w.heap.size w10.heap.size A8 (N + 1) c8 _ from (show OwnSS w10 w1.heap.size w8.heap.size A8 (N + 1) c8 _ from by rw [← hW]; exact own_set3 HS9.out (by omega) _ _ _).wider (by omega) (by rw [← hW]; simp only [Bk.size_set]; omega))
          replace r0 : Bk.Blk w10 (w.heap.size) 27 #[.int .i64 pe, .slice A8 (N + 1) c8, .int .i64 lo] := (by rw [← hW]; apply Bk.Blk.to; (focus (exact Bk.sv)); rfl)
          replace C : Cur.Cur w10 (g) A n c bs := (by rw [← hW]; (repeat (first | with_reducible assumption | with_reducible apply Cur.Cur.alloc | with_reducible apply CurB.cur_drewN | with_reducible apply CurB.cur_drew | ((with_reducible refine CurB.cur_set HAL.out ?_ ?_ ?_ _); (focus (first | omega | (dsimp only; done) | (dsimp only; omega))); (focus (first | omega | (dsimp only; omega)))))))
          replace G : w.grownBy w10 (some (g)) := (by rw [← hW]; exact CurB.gv)
          have z10 : w10.heap.size = _ := congrArg (fun W : World => W.heap.size) hW.symm
          (try simp only [World.size_alloc, Bk.size_set, World.size_drew, World.drewN] at z10)
          clear hW
          have L_r0 := Lay.c3 r0
          go_wp2
          refine bodyPost_ret (v := .agg #[.int .i64 pe, .slice A8 (N + 1) c8, .int .i64 lo]) (by simp [results, Try.results66, go_sem, L_r0]) rfl (⟨pe, lo, N + 1, _, A8, c8, ⟨⟨by omega, by omega⟩, ⟨by omega, by omega⟩, by omega, short_snoc HSH.out (by rw [List.length_replicate]; omega)⟩, HS10.out, rfl, C, G⟩)
        
        · skip
          clear hHeld; go_simp; ((go_at_call 88; refine (l1Below_any A n c bs g _ _ (by (repeat (first | with_reducible assumption | with_reducible apply Cur.Cur.alloc | with_reducible apply CurB.cur_drewN | with_reducible apply CurB.cur_drew | ((with_reducible refine CurB.cur_set HAL.out ?_ ?_ ?_ _); (focus (first | omega | (dsimp only; done) | (dsimp only; omega))); (focus (first | omega | (dsimp only; omega))))))) (by omega) (by omega)).mono ?_; rintro e w5 ⟨t, ht, rfl, C0, hg0⟩; replace HPO := HPO.keep (w' := w5) (fun q h1 h2 => hg0.block q (by first | omega | (simp; omega)) (fun e => by injection e with e; omega)); replace HI := HI.keep (w' := w5) (fun q h1 h2 => hg0.block q (by first | omega | (simp; omega)) (fun e => by injection e with e; omega)); replace r0 : Bk.Blk w5 (w.heap.size) 27 #[.int .i64 0, .slice none 0 0, .int .i64 0] := Bk.Blk.grown hg0 (by omega) (by exact Bk.sv); replace bk : Bk.Blk w5 (w2.heap.size) 27 #[.int .i64 pe, .slice Ag N cg, .int .i64 lo] := Bk.Blk.grown hg0 (by omega) (by exact Bk.sv); replace C := C0; replace G : w.grownBy w5 (some (g)) := World.grownBy.trans (by exact CurB.gv) hg0; have z5 := hg0.size; (try simp only [World.size_alloc, Bk.size_set, World.size_drew, World.drewN] at z5); clear hg0; obtain ⟨t0, t1⟩ := ht; obtain ⟨tn, rfl⟩ := Int.eq_ofNat_of_zero_le t0; have hwr : IntKind.i64.wrap (100 + (tn : Int)) = ((100 + tn : Nat) : Int) := (by rw [IntWalk.i64_left, IntWalk.wrap64_in _ ⟨by omega, by omega⟩]; omega); clear cb; have cb := Lay.f3 bk)); refine hK.out _ _ ?_ (fun hHeld => ?_); ((try dsimp only); skip); clear hK K
          try simp only [Act.put, List.setIfInBounds_toArray, List.set_cons_zero, List.set_cons_succ]
          first | refine Reg.tkA 4 (Reg.get rfl) hHeld ?_ | refine Reg.tkB 4 (Reg.get rfl) hHeld ?_
          try simp only [Act.put, List.setIfInBounds_toArray, List.set_cons_zero, List.set_cons_succ]
          refine wpAnyH_ready (rs := [1, 5]) (by kernel_rfl) (by simp) ?_
          refine (AllReadyH.cons (Reg.get rfl) (fun K hK => ?_) (AllReadyH.cons (Reg.get rfl) (fun K hK => ?_) AllReadyH.nil))
        
          · skip
            clear hHeld; go_simp; (skip); refine hK.out _ _ ?_ (fun hHeld => ?_); ((try dsimp only); skip); clear hK K
            try simp only [Act.put, List.setIfInBounds_toArray, List.set_cons_zero, List.set_cons_succ]
            first | ((refine Reg.tkB 5 (Reg.get rfl) hHeld ?_)) | (refine wpAnyH_ready (rs := [5]) (by kernel_rfl) (by simp) ?_; refine AllReadyH.cons (Reg.get rfl) (fun K hK => ?_) AllReadyH.nil; clear hHeld; ((refine wp_make _ _ _ 25 rfl w4.heap.size 5 iu (.int .u8 0) 1 Try.underlying25 hiu hu0 hu1 .i64 .i64 _ _ (100 + tn) rfl rfl rfl rfl (by rw [hu2]; omega) (by unfold maxLen; omega) (by first | omega | (simp; omega)) ?_; intro w6 own6 hgm; have hb0 := below_made hgm; rw [made_zero] at own6; have RZ := own6; clear own6 hgm; replace HPO := HPO.keep (w' := w6) (fun q h1 h2 => hb0.block q (by first | omega | (simp; omega))); replace HI := HI.keep (w' := w6) (fun q h1 h2 => hb0.block q (by first | omega | (simp; omega))); replace r0 : Bk.Blk w6 (w.heap.size) 27 #[.int .i64 0, .slice none 0 0, .int .i64 0] := Bk.Blk.under hb0 (by exact Bk.sv); replace bk : Bk.Blk w6 (w2.heap.size) 27 #[.int .i64 pe, .slice Ag N cg, .int .i64 lo] := Bk.Blk.under hb0 (by exact Bk.sv); replace C : Cur.Cur w6 (g) A n c bs := Cur.Cur.below (by (repeat (first | with_reducible assumption | with_reducible apply Cur.Cur.alloc | with_reducible apply CurB.cur_drewN | with_reducible apply CurB.cur_drew | ((with_reducible refine CurB.cur_set HAL.out ?_ ?_ ?_ _); (focus (first | omega | (dsimp only; done) | (dsimp only; omega))); (focus (first | omega | (dsimp only; omega))))))) hb0; replace G : w.grownBy w6 (some (g)) := World.grownBy.trans (by exact CurB.gv) (Cur.grown_of_below hb0 _); have z6 := hb0.size; (try simp only [World.size_alloc, Bk.size_set, World.size_drew, World.drewN] at z6); clear hb0; clear cb; have cb := Lay.f3 bk)); refine hK.out _ _ ?_ (fun hHeld => ?_); ((try dsimp only); skip); clear hK K)
            try simp only [Act.put, List.setIfInBounds_toArray, List.set_cons_zero, List.set_cons_succ]
            first | ((refine Reg.tkB 6 (Reg.get rfl) hHeld ?_)) | (refine wpAnyH_ready (rs := [6]) (by kernel_rfl) (by simp) ?_; refine AllReadyH.cons (Reg.get rfl) (fun K hK => ?_) AllReadyH.nil; clear hHeld; go_simp; ((generalize hW : World.alloc _ _ = w7; (first | replace HPO := HPO.keep (w' := w7) (fun q h1 h2 => by rw [← hW]; exact Below.heap_alloc _ _ q (by first | omega | (simp; omega)))); (first | replace HI := HI.keep (w' := w7) (fun q h1 h2 => by rw [← hW]; exact Below.heap_alloc _ _ q (by first | omega | (simp; omega)))); (first | replace RZ := own_toA RZ hW | replace RZ := own_toA (own_drewA RZ) hW); have re := rd_oneA hW; replace r0 : Bk.Blk w7 (w.heap.size) 27 #[.int .i64 0, .slice none 0 0, .int .i64 0] := (by rw [← hW]; exact Bk.sv); replace bk : Bk.Blk w7 (w2.heap.size) 27 #[.int .i64 pe, .slice Ag N cg, .int .i64 lo] := (by rw [← hW]; exact Bk.sv); replace C : Cur.Cur w7 (g) A n c bs := (by rw [← hW]; (repeat (first | with_reducible assumption | with_reducible apply Cur.Cur.alloc | with_reducible apply CurB.cur_drewN | with_reducible apply CurB.cur_drew | ((with_reducible refine CurB.cur_set HAL.out ?_ ?_ ?_ _); (focus (first | omega | (dsimp only; done) | (dsimp only; omega))); (focus (first | omega | (dsimp only; omega))))))); replace G : w.grownBy w7 (some (g)) := (by rw [← hW]; exact CurB.gv); have z7 : w7.heap.size = _ := congrArg (fun W : World => W.heap.size) hW.symm; (try simp only [World.size_alloc, Bk.size_set, World.size_drew, World.drewN] at z7); clear hW; clear cb; have cb := Lay.f3 bk)); refine hK.out _ _ ?_ (fun hHeld => ?_); ((try dsimp only); skip); clear hK K)
            try simp only [Act.put, List.setIfInBounds_toArray, List.set_cons_zero, List.set_cons_succ]
            first | ((refine Reg.tkB 7 (Reg.get rfl) hHeld ?_)) | (refine wpAnyH_ready (rs := [7]) (by kernel_rfl) (by simp) ?_; refine AllReadyH.cons (Reg.get rfl) (fun K hK => ?_) AllReadyH.nil; clear hHeld; ((refine App.wp_app _ _ _ 22 rfl w1.heap.size 25 ip (.slice none 0 0) 1 24 Try.underlying22 hip hp0 hp1 hp2 rfl (by decide) _ _ _ _ rfl (by first | exact HPO.1 | exact own_drewA HPO.1) _ 1 1 _ rfl (by first | exact re | exact re.drew) (fun u hu => by simp at hu; subst hu; rfl) (by unfold maxLen; omega) (by omega) (by first | omega | (simp; done) | (simp; omega)) ?_; intro A8 c8 w8 own8 hg8 _; have hP := own_lo HPO.1; have HS := keep_own HX.out HL.out (by first | exact HPO.1 | exact own_drewA HPO.1) (by first | exact HI | exact in_drewA HI) (own_monoA (by first | exact RZ | exact own_drewA RZ) (by omega)) (by omega) hg8 own8 (by first | omega | (simp; done) | (simp; omega)); have z8 := hg8.size; (try simp only [World.size_drew] at z8); (first | replace r0 := blk_grownA hg8 (own_ne HPO.1 r0 (by decide)) r0 | replace r0 := blk_grownA hg8 (own_ne HPO.1 r0 (by decide)) r0.drew); (first | replace bk := blk_grownA hg8 (own_ne HPO.1 bk (by decide)) bk | replace bk := blk_grownA hg8 (own_ne HPO.1 bk (by decide)) bk.drew); have hgA : blk Ag ≠ some g := (by intro e; have := hP _ e; omega); (first | replace C := Drw.cur_grownK hg8 (fun e => hgA e.symm) (fun h0 e => Drw.cur_offK C.2.1 HAL.out hP h0 e (by omega)) C | replace C := Drw.cur_grownK hg8 (fun e => hgA e.symm) (fun h0 e => Drw.cur_offK C.2.1 HAL.out hP h0 e (by omega)) (CurB.cur_drew C)); (first | replace G := Drw.gr_rowK G hg8 (fun q e => Nat.le_trans (by omega) (hP q e)) | replace G := Drw.gr_rowK (CurB.gr_drew G) hg8 (fun q e => Nat.le_trans (by omega) (hP q e))); clear hP hgA hg8 own8 HPO HI RZ re cb; have cb := Lay.f3 bk)); refine hK.out _ _ ?_ (fun hHeld => ?_); ((try dsimp only); skip); clear hK K)
            try simp only [Act.put, List.setIfInBounds_toArray, List.set_cons_zero, List.set_cons_succ]
            first | refine Reg.tkA 8 (Reg.get rfl) hHeld ?_ | refine Reg.tkB 8 (Reg.get rfl) hHeld ?_
            try simp only [Act.put, List.setIfInBounds_toArray, List.set_cons_zero, List.set_cons_succ]
            first | ((refine Reg.tkB 9 (Reg.get rfl) hHeld ?_)) | (refine wpAnyH_ready (rs := [9]) (by kernel_rfl) (by simp) ?_; refine AllReadyH.cons (Reg.get rfl) (fun K hK => ?_) AllReadyH.nil; clear hHeld; go_simp; (skip); refine hK.out _ _ ?_ (fun hHeld => ?_); ((try dsimp only); skip); clear hK K)
            try simp only [Act.put, List.setIfInBounds_toArray, List.set_cons_zero, List.set_cons_succ]
            refine wpAnyH_done (by kernel_rfl) ?_ _
            clear cb
            generalize hW : World.setCell _ _ _ = w9
            have HS9 := Lib.hid (show OwnSS w9 w1.heap.size w8.heap.size A8 (N + 1) c8 _ from by rw [← hW]; exact ownSS_far HS bk (by decide) (by decide) _)
            replace bk : Bk.Blk w9 (w2.heap.size) 27 #[.int .i64 pe, .slice A8 (N + 1) c8, .int .i64 lo] := (by rw [← hW]; apply Bk.Blk.to; (focus (exact Bk.sv)); rfl)
            replace r0 : Bk.Blk w9 (w.heap.size) 27 #[.int .i64 0, .slice none 0 0, .int .i64 0] := (by rw [← hW]; exact Bk.sv)
            replace C : Cur.Cur w9 (g) A n c bs := (by rw [← hW]; (repeat (first | with_reducible assumption | with_reducible apply Cur.Cur.alloc | with_reducible apply CurB.cur_drewN | with_reducible apply CurB.cur_drew | ((with_reducible refine CurB.cur_set HAL.out ?_ ?_ ?_ _); (focus (first | omega | (dsimp only; done) | (dsimp only; omega))); (focus (first | omega | (dsimp only; omega)))))))
            replace G : w.grownBy w9 (some (g)) := (by rw [← hW]; exact CurB.gv)
            have z9 : w9.heap.size = _ := congrArg (fun W : World => W.heap.size) hW.symm
            (try simp only [World.size_alloc, Bk.size_set, World.size_drew, World.drewN] at z9)
            clear hW
            clear HS
            have L_bk := Lay.f3 bk
            have L_r0 := Lay.f3 r0
            go_wp2_with fail
            clear L_bk L_r0
            generalize hW : World.setCell _ _ _ = w10
            have HS10 := Lib.hid (show OwnSS w10 w.heap.size w10.heap.size A8 (N + 1) c8 _ from (show OwnSS w10 w1.heap.size w8.heap.size A8 (N + 1) c8 _ from by rw [← hW]; exact own_set3 HS9.out (by omega) _ _ _).wider (by omega) (by rw [← hW]; simp only [Bk.size_set]; omega))
            replace r0 : Bk.Blk w10 (w.heap.size) 27 #[.int .i64 pe, .slice A8 (N + 1) c8, .int .i64 lo] := (by rw [← hW]; apply Bk.Blk.to; (focus (exact Bk.sv)); rfl)
            replace C : Cur.Cur w10 (g) A n c bs := (by rw [← hW]; (repeat (first | with_reducible assumption | with_reducible apply Cur.Cur.alloc | with_reducible apply CurB.cur_drewN | with_reducible apply CurB.cur_drew | ((with_reducible refine CurB.cur_set HAL.out ?_ ?_ ?_ _); (focus (first | omega | (dsimp only; done) | (dsimp only; omega))); (focus (first | omega | (dsimp only; omega)))))))
            replace G : w.grownBy w10 (some (g)) := (by rw [← hW]; exact CurB.gv)
            have z10 : w10.heap.size = _ := congrArg (fun W : World => W.heap.size) hW.symm
            (try simp only [World.size_alloc, Bk.size_set, World.size_drew, World.drewN] at z10)
            clear hW
            have L_r0 := Lay.c3 r0
            go_wp2
            refine bodyPost_ret (v := .agg #[.int .i64 pe, .slice A8 (N + 1) c8, .int .i64 lo]) (by simp [results, Try.results66, go_sem, L_r0]) rfl (⟨pe, lo, N + 1, _, A8, c8, ⟨⟨by omega, by omega⟩, ⟨by omega, by omega⟩, by omega, short_snoc HSH.out (by rw [List.length_replicate]; omega)⟩, HS10.out, rfl, C, G⟩)
        
          · skip
            clear hHeld; ((refine wp_make _ _ _ 25 rfl w4.heap.size 5 iu (.int .u8 0) 1 Try.underlying25 hiu hu0 hu1 .i64 .i64 _ _ (100 + tn) rfl rfl rfl rfl (by rw [hu2]; omega) (by unfold maxLen; omega) (by first | omega | (simp; omega)) ?_; intro w6 own6 hgm; have hb0 := below_made hgm; rw [made_zero] at own6; have RZ := own6; clear own6 hgm; replace HPO := HPO.keep (w' := w6) (fun q h1 h2 => hb0.block q (by first | omega | (simp; omega))); replace HI := HI.keep (w' := w6) (fun q h1 h2 => hb0.block q (by first | omega | (simp; omega))); replace r0 : Bk.Blk w6 (w.heap.size) 27 #[.int .i64 0, .slice none 0 0, .int .i64 0] := Bk.Blk.under hb0 (by exact Bk.sv); replace bk : Bk.Blk w6 (w2.heap.size) 27 #[.int .i64 pe, .slice Ag N cg, .int .i64 lo] := Bk.Blk.under hb0 (by exact Bk.sv); replace C : Cur.Cur w6 (g) A n c bs := Cur.Cur.below (by (repeat (first | with_reducible assumption | with_reducible apply Cur.Cur.alloc | with_reducible apply CurB.cur_drewN | with_reducible apply CurB.cur_drew | ((with_reducible refine CurB.cur_set HAL.out ?_ ?_ ?_ _); (focus (first | omega | (dsimp only; done) | (dsimp only; omega))); (focus (first | omega | (dsimp only; omega))))))) hb0; replace G : w.grownBy w6 (some (g)) := World.grownBy.trans (by exact CurB.gv) (Cur.grown_of_below hb0 _); have z6 := hb0.size; (try simp only [World.size_alloc, Bk.size_set, World.size_drew, World.drewN] at z6); clear hb0; clear cb; have cb := Lay.f3 bk)); refine hK.out _ _ ?_ (fun hHeld => ?_); ((try dsimp only); skip); clear hK K
            try simp only [Act.put, List.setIfInBounds_toArray, List.set_cons_zero, List.set_cons_succ]
            refine wpAnyH_ready (rs := [1, 6]) (by kernel_rfl) (by simp) ?_
            refine (AllReadyH.cons (Reg.get rfl) (fun K hK => ?_) (AllReadyH.cons (Reg.get rfl) (fun K hK => ?_) AllReadyH.nil))
        
            · skip
              clear hHeld; go_simp; (skip); refine hK.out _ _ ?_ (fun hHeld => ?_); ((try dsimp only); skip); clear hK K
              try simp only [Act.put, List.setIfInBounds_toArray, List.set_cons_zero, List.set_cons_succ]
              first | ((refine Reg.tkB 6 (Reg.get rfl) hHeld ?_)) | (refine wpAnyH_ready (rs := [6]) (by kernel_rfl) (by simp) ?_; refine AllReadyH.cons (Reg.get rfl) (fun K hK => ?_) AllReadyH.nil; clear hHeld; go_simp; ((generalize hW : World.alloc _ _ = w7; (first | replace HPO := HPO.keep (w' := w7) (fun q h1 h2 => by rw [← hW]; exact Below.heap_alloc _ _ q (by first | omega | (simp; omega)))); (first | replace HI := HI.keep (w' := w7) (fun q h1 h2 => by rw [← hW]; exact Below.heap_alloc _ _ q (by first | omega | (simp; omega)))); (first | replace RZ := own_toA RZ hW | replace RZ := own_toA (own_drewA RZ) hW); have re := rd_oneA hW; replace r0 : Bk.Blk w7 (w.heap.size) 27 #[.int .i64 0, .slice none 0 0, .int .i64 0] := (by rw [← hW]; exact Bk.sv); replace bk : Bk.Blk w7 (w2.heap.size) 27 #[.int .i64 pe, .slice Ag N cg, .int .i64 lo] := (by rw [← hW]; exact Bk.sv); replace C : Cur.Cur w7 (g) A n c bs := (by rw [← hW]; (repeat (first | with_reducible assumption | with_reducible apply Cur.Cur.alloc | with_reducible apply CurB.cur_drewN | with_reducible apply CurB.cur_drew | ((with_reducible refine CurB.cur_set HAL.out ?_ ?_ ?_ _); (focus (first | omega | (dsimp only; done) | (dsimp only; omega))); (focus (first | omega | (dsimp only; omega))))))); replace G : w.grownBy w7 (some (g)) := (by rw [← hW]; exact CurB.gv); have z7 : w7.heap.size = _ := congrArg (fun W : World => W.heap.size) hW.symm; (try simp only [World.size_alloc, Bk.size_set, World.size_drew, World.drewN] at z7); clear hW; clear cb; have cb := Lay.f3 bk)); refine hK.out _ _ ?_ (fun hHeld => ?_); ((try dsimp only); skip); clear hK K)
              try simp only [Act.put, List.setIfInBounds_toArray, List.set_cons_zero, List.set_cons_succ]
              first | ((refine Reg.tkB 7 (Reg.get rfl) hHeld ?_)) | (refine wpAnyH_ready (rs := [7]) (by kernel_rfl) (by simp) ?_; refine AllReadyH.cons (Reg.get rfl) (fun K hK => ?_) AllReadyH.nil; clear hHeld; ((refine App.wp_app _ _ _ 22 rfl w1.heap.size 25 ip (.slice none 0 0) 1 24 Try.underlying22 hip hp0 hp1 hp2 rfl (by decide) _ _ _ _ rfl (by first | exact HPO.1 | exact own_drewA HPO.1) _ 1 1 _ rfl (by first | exact re | exact re.drew) (fun u hu => by simp at hu; subst hu; rfl) (by unfold maxLen; omega) (by omega) (by first | omega | (simp; done) | (simp; omega)) ?_; intro A8 c8 w8 own8 hg8 _; have hP := own_lo HPO.1; have HS := keep_own HX.out HL.out (by first | exact HPO.1 | exact own_drewA HPO.1) (by first | exact HI | exact in_drewA HI) (own_monoA (by first | exact RZ | exact own_drewA RZ) (by omega)) (by omega) hg8 own8 (by first | omega | (simp; done) | (simp; omega)); have z8 := hg8.size; (try simp only [World.size_drew] at z8); (first | replace r0 := blk_grownA hg8 (own_ne HPO.1 r0 (by decide)) r0 | replace r0 := blk_grownA hg8 (own_ne HPO.1 r0 (by decide)) r0.drew); (first | replace bk := blk_grownA hg8 (own_ne HPO.1 bk (by decide)) bk | replace bk := blk_grownA hg8 (own_ne HPO.1 bk (by decide)) bk.drew); have hgA : blk Ag ≠ some g := (by intro e; have := hP _ e; omega); (first | replace C := Drw.cur_grownK hg8 (fun e => hgA e.symm) (fun h0 e => Drw.cur_offK C.2.1 HAL.out hP h0 e (by omega)) C | replace C := Drw.cur_grownK hg8 (fun e => hgA e.symm) (fun h0 e => Drw.cur_offK C.2.1 HAL.out hP h0 e (by omega)) (CurB.cur_drew C)); (first | replace G := Drw.gr_rowK G hg8 (fun q e => Nat.le_trans (by omega) (hP q e)) | replace G := Drw.gr_rowK (CurB.gr_drew G) hg8 (fun q e => Nat.le_trans (by omega) (hP q e))); clear hP hgA hg8 own8 HPO HI RZ re cb; have cb := Lay.f3 bk)); refine hK.out _ _ ?_ (fun hHeld => ?_); ((try dsimp only); skip); clear hK K)
              try simp only [Act.put, List.setIfInBounds_toArray, List.set_cons_zero, List.set_cons_succ]
              first | refine Reg.tkA 8 (Reg.get rfl) hHeld ?_ | refine Reg.tkB 8 (Reg.get rfl) hHeld ?_
              try simp only [Act.put, List.setIfInBounds_toArray, List.set_cons_zero, List.set_cons_succ]
              first | ((refine Reg.tkB 9 (Reg.get rfl) hHeld ?_)) | (refine wpAnyH_ready (rs := [9]) (by kernel_rfl) (by simp) ?_; refine AllReadyH.cons (Reg.get rfl) (fun K hK => ?_) AllReadyH.nil; clear hHeld; go_simp; (skip); refine hK.out _ _ ?_ (fun hHeld => ?_); ((try dsimp only); skip); clear hK K)
              try simp only [Act.put, List.setIfInBounds_toArray, List.set_cons_zero, List.set_cons_succ]
              refine wpAnyH_done (by kernel_rfl) ?_ _
              clear cb
              generalize hW : World.setCell _ _ _ = w9
              have HS9 := Lib.hid (show OwnSS w9 w1.heap.size w8.heap.size A8 (N + 1) c8 _ from by rw [← hW]; exact ownSS_far HS bk (by decide) (by decide) _)
              replace bk : Bk.Blk w9 (w2.heap.size) 27 #[.int .i64 pe, .slice A8 (N + 1) c8, .int .i64 lo] := (by rw [← hW]; apply Bk.Blk.to; (focus (exact Bk.sv)); rfl)
              replace r0 : Bk.Blk w9 (w.heap.size) 27 #[.int .i64 0, .slice none 0 0, .int .i64 0] := (by rw [← hW]; exact Bk.sv)
              replace C : Cur.Cur w9 (g) A n c bs := (by rw [← hW]; (repeat (first | with_reducible assumption | with_reducible apply Cur.Cur.alloc | with_reducible apply CurB.cur_drewN | with_reducible apply CurB.cur_drew | ((with_reducible refine CurB.cur_set HAL.out ?_ ?_ ?_ _); (focus (first | omega | (dsimp only; done) | (dsimp only; omega))); (focus (first | omega | (dsimp only; omega)))))))
              replace G : w.grownBy w9 (some (g)) := (by rw [← hW]; exact CurB.gv)
              have z9 : w9.heap.size = _ := congrArg (fun W : World => W.heap.size) hW.symm
              (try simp only [World.size_alloc, Bk.size_set, World.size_drew, World.drewN] at z9)
              clear hW
              clear HS
              have L_bk := Lay.f3 bk
              have L_r0 := Lay.f3 r0
              go_wp2_with fail
              clear L_bk L_r0
              generalize hW : World.setCell _ _ _ = w10
              have HS10 := Lib.hid (show OwnSS w10 w.heap.size w10.heap.size A8 (N + 1) c8 _ from (show OwnSS w10 w1.heap.size w8.heap.size A8 (N + 1) c8 _ from by rw [← hW]; exact own_set3 HS9.out (by omega) _ _ _).wider (by omega) (by rw [← hW]; simp only [Bk.size_set]; omega))
              replace r0 : Bk.Blk w10 (w.heap.size) 27 #[.int .i64 pe, .slice A8 (N + 1) c8, .int .i64 lo] := (by rw [← hW]; apply Bk.Blk.to; (focus (exact Bk.sv)); rfl)
              replace C : Cur.Cur w10 (g) A n c bs := (by rw [← hW]; (repeat (first | with_reducible assumption | with_reducible apply Cur.Cur.alloc | with_reducible apply CurB.cur_drewN | with_reducible apply CurB.cur_drew | ((with_reducible refine CurB.cur_set HAL.out ?_ ?_ ?_ _); (focus (first | omega | (dsimp only; done) | (dsimp only; omega))); (focus (first | omega | (dsimp only; omega)))))))
              replace G : w.grownBy w10 (some (g)) := (by rw [← hW]; exact CurB.gv)
              have z10 : w10.heap.size = _ := congrArg (fun W : World => W.heap.size) hW.symm
              (try simp only [World.size_alloc, Bk.size_set, World.size_drew, World.drewN] at z10)
              clear hW
              have L_r0 := Lay.c3 r0
              go_wp2
              refine bodyPost_ret (v := .agg #[.int .i64 pe, .slice A8 (N + 1) c8, .int .i64 lo]) (by simp [results, Try.results66, go_sem, L_r0]) rfl (⟨pe, lo, N + 1, _, A8, c8, ⟨⟨by omega, by omega⟩, ⟨by omega, by omega⟩, by omega, short_snoc HSH.out (by rw [List.length_replicate]; omega)⟩, HS10.out, rfl, C, G⟩)
        
            · skip
              clear hHeld; go_simp; ((generalize hW : World.alloc _ _ = w7; (first | replace HPO := HPO.keep (w' := w7) (fun q h1 h2 => by rw [← hW]; exact Below.heap_alloc _ _ q (by first | omega | (simp; omega)))); (first | replace HI := HI.keep (w' := w7) (fun q h1 h2 => by rw [← hW]; exact Below.heap_alloc _ _ q (by first | omega | (simp; omega)))); (first | replace RZ := own_toA RZ hW | replace RZ := own_toA (own_drewA RZ) hW); have re := rd_oneA hW; replace r0 : Bk.Blk w7 (w.heap.size) 27 #[.int .i64 0, .slice none 0 0, .int .i64 0] := (by rw [← hW]; exact Bk.sv); replace bk : Bk.Blk w7 (w2.heap.size) 27 #[.int .i64 pe, .slice Ag N cg, .int .i64 lo] := (by rw [← hW]; exact Bk.sv); replace C : Cur.Cur w7 (g) A n c bs := (by rw [← hW]; (repeat (first | with_reducible assumption | with_reducible apply Cur.Cur.alloc | with_reducible apply CurB.cur_drewN | with_reducible apply CurB.cur_drew | ((with_reducible refine CurB.cur_set HAL.out ?_ ?_ ?_ _); (focus (first | omega | (dsimp only; done) | (dsimp only; omega))); (focus (first | omega | (dsimp only; omega))))))); replace G : w.grownBy w7 (some (g)) := (by rw [← hW]; exact CurB.gv); have z7 : w7.heap.size = _ := congrArg (fun W : World => W.heap.size) hW.symm; (try simp only [World.size_alloc, Bk.size_set, World.size_drew, World.drewN] at z7); clear hW; clear cb; have cb := Lay.f3 bk)); refine hK.out _ _ ?_ (fun hHeld => ?_); ((try dsimp only); skip); clear hK K
              try simp only [Act.put, List.setIfInBounds_toArray, List.set_cons_zero, List.set_cons_succ]
              first | ((refine Reg.tkB 1 (Reg.get rfl) hHeld ?_)) | (refine wpAnyH_ready (rs := [1]) (by kernel_rfl) (by simp) ?_; refine AllReadyH.cons (Reg.get rfl) (fun K hK => ?_) AllReadyH.nil; clear hHeld; go_simp; (skip); refine hK.out _ _ ?_ (fun hHeld => ?_); ((try dsimp only); skip); clear hK K)
              try simp only [Act.put, List.setIfInBounds_toArray, List.set_cons_zero, List.set_cons_succ]
              first | ((refine Reg.tkB 7 (Reg.get rfl) hHeld ?_)) | (refine wpAnyH_ready (rs := [7]) (by kernel_rfl) (by simp) ?_; refine AllReadyH.cons (Reg.get rfl) (fun K hK => ?_) AllReadyH.nil; clear hHeld; ((refine App.wp_app _ _ _ 22 rfl w1.heap.size 25 ip (.slice none 0 0) 1 24 Try.underlying22 hip hp0 hp1 hp2 rfl (by decide) _ _ _ _ rfl (by first | exact HPO.1 | exact own_drewA HPO.1) _ 1 1 _ rfl (by first | exact re | exact re.drew) (fun u hu => by simp at hu; subst hu; rfl) (by unfold maxLen; omega) (by omega) (by first | omega | (simp; done) | (simp; omega)) ?_; intro A8 c8 w8 own8 hg8 _; have hP := own_lo HPO.1; have HS := keep_own HX.out HL.out (by first | exact HPO.1 | exact own_drewA HPO.1) (by first | exact HI | exact in_drewA HI) (own_monoA (by first | exact RZ | exact own_drewA RZ) (by omega)) (by omega) hg8 own8 (by first | omega | (simp; done) | (simp; omega)); have z8 := hg8.size; (try simp only [World.size_drew] at z8); (first | replace r0 := blk_grownA hg8 (own_ne HPO.1 r0 (by decide)) r0 | replace r0 := blk_grownA hg8 (own_ne HPO.1 r0 (by decide)) r0.drew); (first | replace bk := blk_grownA hg8 (own_ne HPO.1 bk (by decide)) bk | replace bk := blk_grownA hg8 (own_ne HPO.1 bk (by decide)) bk.drew); have hgA : blk Ag ≠ some g := (by intro e; have := hP _ e; omega); (first | replace C := Drw.cur_grownK hg8 (fun e => hgA e.symm) (fun h0 e => Drw.cur_offK C.2.1 HAL.out hP h0 e (by omega)) C | replace C := Drw.cur_grownK hg8 (fun e => hgA e.symm) (fun h0 e => Drw.cur_offK C.2.1 HAL.out hP h0 e (by omega)) (CurB.cur_drew C)); (first | replace G := Drw.gr_rowK G hg8 (fun q e => Nat.le_trans (by omega) (hP q e)) | replace G := Drw.gr_rowK (CurB.gr_drew G) hg8 (fun q e => Nat.le_trans (by omega) (hP q e))); clear hP hgA hg8 own8 HPO HI RZ re cb; have cb := Lay.f3 bk)); refine hK.out _ _ ?_ (fun hHeld => ?_); ((try dsimp only); skip); clear hK K)
              try simp only [Act.put, List.setIfInBounds_toArray, List.set_cons_zero, List.set_cons_succ]
              first | refine Reg.tkA 8 (Reg.get rfl) hHeld ?_ | refine Reg.tkB 8 (Reg.get rfl) hHeld ?_
              try simp only [Act.put, List.setIfInBounds_toArray, List.set_cons_zero, List.set_cons_succ]
              first | ((refine Reg.tkB 9 (Reg.get rfl) hHeld ?_)) | (refine wpAnyH_ready (rs := [9]) (by kernel_rfl) (by simp) ?_; refine AllReadyH.cons (Reg.get rfl) (fun K hK => ?_) AllReadyH.nil; clear hHeld; go_simp; (skip); refine hK.out _ _ ?_ (fun hHeld => ?_); ((try dsimp only); skip); clear hK K)
              try simp only [Act.put, List.setIfInBounds_toArray, List.set_cons_zero, List.set_cons_succ]
              refine wpAnyH_done (by kernel_rfl) ?_ _
              clear cb
              generalize hW : World.setCell _ _ _ = w9
              have HS9 := Lib.hid (show OwnSS w9 w1.heap.size w8.heap.size A8 (N + 1) c8 _ from by rw [← hW]; exact ownSS_far HS bk (by decide) (by decide) _)
              replace bk : Bk.Blk w9 (w2.heap.size) 27 #[.int .i64 pe, .slice A8 (N + 1) c8, .int .i64 lo] := (by rw [← hW]; apply Bk.Blk.to; (focus (exact Bk.sv)); rfl)
              replace r0 : Bk.Blk w9 (w.heap.size) 27 #[.int .i64 0, .slice none 0 0, .int .i64 0] := (by rw [← hW]; exact Bk.sv)
              replace C : Cur.Cur w9 (g) A n c bs := (by rw [← hW]; (repeat (first | with_reducible assumption | with_reducible apply Cur.Cur.alloc | with_reducible apply CurB.cur_drewN | with_reducible apply CurB.cur_drew | ((with_reducible refine CurB.cur_set HAL.out ?_ ?_ ?_ _); (focus (first | omega | (dsimp only; done) | (dsimp only; omega))); (focus (first | omega | (dsimp only; omega)))))))
              replace G : w.grownBy w9 (some (g)) := (by rw [← hW]; exact CurB.gv)
              have z9 : w9.heap.size = _ := congrArg (fun W : World => W.heap.size) hW.symm
              (try simp only [World.size_alloc, Bk.size_set, World.size_drew, World.drewN] at z9)
              clear hW
              clear HS
              have L_bk := Lay.f3 bk
              have L_r0 := Lay.f3 r0
              go_wp2_with fail
              clear L_bk L_r0
              generalize hW : World.setCell _ _ _ = w10
              have HS10 := Lib.hid (show OwnSS w10 w.heap.size w10.heap.size A8 (N + 1) c8 _ from (show OwnSS w10 w1.heap.size w8.heap.size A8 (N + 1) c8 _ from by rw [← hW]; exact own_set3 HS9.out (by omega) _ _ _).wider (by omega) (by rw [← hW]; simp only [Bk.size_set]; omega))
              replace r0 : Bk.Blk w10 (w.heap.size) 27 #[.int .i64 pe, .slice A8 (N + 1) c8, .int .i64 lo] := (by rw [← hW]; apply Bk.Blk.to; (focus (exact Bk.sv)); rfl)
              replace C : Cur.Cur w10 (g) A n c bs := (by rw [← hW]; (repeat (first | with_reducible assumption | with_reducible apply Cur.Cur.alloc | with_reducible apply CurB.cur_drewN | with_reducible apply CurB.cur_drew | ((with_reducible refine CurB.cur_set HAL.out ?_ ?_ ?_ _); (focus (first | omega | (dsimp only; done) | (dsimp only; omega))); (focus (first | omega | (dsimp only; omega)))))))
              replace G : w.grownBy w10 (some (g)) := (by rw [← hW]; exact CurB.gv)
              have z10 : w10.heap.size = _ := congrArg (fun W : World => W.heap.size) hW.symm
              (try simp only [World.size_alloc, Bk.size_set, World.size_drew, World.drewN] at z10)
              clear hW
              have L_r0 := Lay.c3 r0
              go_wp2
              refine bodyPost_ret (v := .agg #[.int .i64 pe, .slice A8 (N + 1) c8, .int .i64 lo]) (by simp [results, Try.results66, go_sem, L_r0]) rfl (⟨pe, lo, N + 1, _, A8, c8, ⟨⟨by omega, by omega⟩, ⟨by omega, by omega⟩, by omega, short_snoc HSH.out (by rw [List.length_replicate]; omega)⟩, HS10.out, rfl, C, G⟩)
      · have e2 : (y == 2) = false := by simpa using h2
        clear h0 h1 h2
        have L_bk := Lay.f3 bk
        have L_r0 := Lay.f3 r0
        go_wp2_with fail
        clear L_bk L_r0
        generalize hW : World.setCell _ _ _ = w7
        have HP2 := Lib.hid (show OwnSS w7 w.heap.size w7.heap.size Ag N cg xss from (HSS.out.keep (w' := w7) fun q h1 h2 => by rw [← hW]; (repeat refine (Below.heap_setCell _ _ _ q (by simp; omega)).trans ?_); rfl).wider (by omega) (by rw [← hW]; simp only [Bk.size_set]; omega))
        replace r0 : Bk.Blk w7 (w.heap.size) 27 #[.int .i64 pe, .slice Ag N cg, .int .i64 lo] := (by rw [← hW]; apply Bk.Blk.to; (focus (exact Bk.sv)); rfl)
        replace C : Cur.Cur w7 (g) A n c bs := (by rw [← hW]; (repeat (first | with_reducible assumption | with_reducible apply Cur.Cur.alloc | with_reducible apply CurB.cur_drewN | with_reducible apply CurB.cur_drew | ((with_reducible refine CurB.cur_set HAL.out ?_ ?_ ?_ _); (focus (first | omega | (dsimp only; done) | (dsimp only; omega))); (focus (first | omega | (dsimp only; omega)))))))
        replace G : w.grownBy w7 (some (g)) := (by rw [← hW]; exact CurB.gv)
        have z7 : w7.heap.size = _ := congrArg (fun W : World => W.heap.size) hW.symm
        (try simp only [World.size_alloc, Bk.size_set, World.size_drew, World.drewN] at z7)
        clear hW
        have L_r0 := Lay.c3 r0
        go_wp2
        refine bodyPost_ret (v := .agg #[.int .i64 pe, .slice Ag N cg, .int .i64 lo]) (by simp [results, Try.results66, go_sem, L_r0]) rfl (⟨pe, lo, N, xss, Ag, cg, ⟨⟨by omega, by omega⟩, ⟨by omega, by omega⟩, by omega, HSH.out⟩, HP2.out, rfl, C, G⟩)
end Go.Proofs.Ythdieeaegplnmaa.Gb
