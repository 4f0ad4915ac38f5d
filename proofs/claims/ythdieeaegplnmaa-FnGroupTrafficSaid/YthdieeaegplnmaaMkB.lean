/- MakeBeacon, both sides. -/
import Derived.Test.YthdieeaegplnmaaPbW
import Derived.Test.YthdieeaegplnmaaPbM
import Derived.Test.YthdieeaegplnmaaBc
import Derived.Test.YthdieeaegplnmaaBaseB
import Derived.Test.YthdieeaegplnmaaKeepA
import Derived.Deep.DeepCutAuto
import Derived.Outline
namespace Go.Proofs.Ythdieeaegplnmaa.Lay
open Go.RowKit
open Go.Proofs.Ythdieeaegplnmaa.Bk
theorem c1 {w : World} {g : Nat} {t : TypeId} {v0 : Value} (h : Blk w g t #[v0]) : g < w.heap.size ∧ w.cell? ⟨g, 0, none⟩ = some v0 := ⟨h.lt, h.cell 0⟩
theorem f1 {w : World} {g : Nat} {t : TypeId} {v0 : Value} (h : Blk w g t #[v0]) : g < w.heap.size ∧ w.cell? ⟨g, 0, none⟩ = some v0 ∧ w.frozen? ⟨g, 0, none⟩ = false := ⟨h.lt, h.cell 0, h.fro 0⟩
end Go.Proofs.Ythdieeaegplnmaa.Lay
namespace Go.Proofs.Ythdieeaegplnmaa.Pb
open Go.RowKit
open Go.Proofs.Ythdieeaegplnmaa.Num Go.Proofs.Ythdieeaegplnmaa.Mem Go.Proofs.Ythdieeaegplnmaa.Hsh Go.Proofs.Ythdieeaegplnmaa.Sls Go.Proofs.Ythdieeaegplnmaa.Own Go.Proofs.Ythdieeaegplnmaa.SS Go.Proofs.Ythdieeaegplnmaa.Gb
set_option linter.unusedSimpArgs false
set_option linter.unusedVariables false
/-- group traffic is told -/
def gtB (dc : Int) (n : Nat) : Bool := (dc == 0) && decide (0 < n)
/-- the beacon that is made is to be sent -/
def mkP (pe lo : Int) (xss : List (List Int)) (n : Nat) (ks : List Kt) (m : Nat) (fr sl : Int) : Prop :=
  validG pe lo xss n ∧ validP ks m ∧ validB fr sl (Bcn.dcount sl pe) pe (gtB (Bcn.dcount sl pe) n) (timK ks m)
theorem saysB {b : Prop} {w w' : World} {x : Ending} (h : SaysG b w x w') (v : Bool) (hv : v = true ↔ b) : x = .returned (.bool v) ∧ Below w.heap.size w w' := by
  obtain ⟨b', h1, rfl, h2⟩ := h
  have e : b' = v := by cases b' <;> cases v <;> simp_all
  exact ⟨by rw [e], h2⟩
theorem boolOf (p : Prop) : ∃ v : Bool, v = true ↔ p := by
  by_cases h : p
  · exact ⟨true, by simp [h]⟩
  · exact ⟨false, by simp [h]⟩
theorem gt_cases (dc : Int) (n : Nat) : ((dc == 0) = false ∧ gtB dc n = false) ∨ ((dc == 0) = true ∧ decide (0 < n) = false ∧ gtB dc n = false) ∨ ((dc == 0) = true ∧ decide (0 < n) = true ∧ gtB dc n = true) := by
  unfold gtB
  cases h1 : (dc == 0) <;> cases h2 : decide (0 < n) <;> simp
theorem blk_newM {W w' : World} {t : TypeId} {cs : Array Value} (hW : W.alloc (.cells cs t) = w') : Bk.Blk w' W.heap.size t cs := hW ▸ Bk.Blk.newAt rfl t cs
theorem blk_drewM {W : World} {g : Nat} {t : TypeId} {cs : Array Value} (h : Bk.Blk W g t cs) : Bk.Blk W.drew g t cs := h
theorem blk_underM {W w' : World} {g : Nat} {t : TypeId} {cs : Array Value} (h : Bk.Blk W g t cs) (hb : Below W.heap.size W w') : Bk.Blk w' g t cs := Bk.Blk.under hb h
theorem blk_toM {W w' : World} {o : Obj} {p : Nat} {t : TypeId} {cs : Array Value} (h : Bk.Blk W p t cs) (hW : W.alloc o = w') : Bk.Blk w' p t cs := hW ▸ Bk.Blk.alloc h _
theorem blk_grM {w w' : World} {g : Nat} {t : TypeId} {cs : Array Value} {row : Option Nat} (hb : w.grownBy w' row) (hr : some g ≠ row) (h : Bk.Blk w g t cs) : Bk.Blk w' g t cs := (hb.block g h.lt (fun e => hr e)).trans h
theorem below_grM {a w w' : World} {p : Nat} (B : Below a.heap.size a w) (hg : w.grownBy w' (some p)) (hp : a.heap.size ≤ p) : Below a.heap.size a w' :=
  ⟨hg.os.trans B.os, hg.tape.trans B.tape, hg.output.trans B.output, Nat.le_trans B.size hg.size, fun k hk => (hg.block k (Nat.lt_of_lt_of_le hk B.size) (fun e => by injection e with e; omega)).trans (B.block k hk)⟩
def mkV (fr sl dc pe : Int) (gt : Bool) (ti : Int) (ok : Bool) : Value :=
  if ok then .agg #[.int .i64 fr, .int .i64 sl, .int .i64 dc, .int .i64 pe, .bool gt, .int .i64 ti] else .agg #[.int .i64 0, .int .i64 0, .int .i64 0, .int .i64 0, .bool false, .int .i64 0]
set_option maxRecDepth 100000 in
set_option maxHeartbeats 16000000 in
theorem mk_impl (pe lo : Int) (A : Option Addr) (n c : Nat) (xss : List (List Int)) (A2 : Option Addr) (m c2 : Nat) (ks : List Kt) (fr sl : Int) (dc ti : Int) (gt vg vp vb : Bool) (w : World)
    (hdc : Bcn.dcount sl pe = dc) (hti : timK ks m = ti) (hgt : gtB dc n = gt) (hvg : vg = true ↔ validG pe lo xss n) (hvp : vp = true ↔ validP ks m) (hvb : vb = true ↔ validB fr sl dc pe gt ti)
    (hr : RdSS w A n c xss) (hp : RdPB w A2 m c2 ks) (hs : -9223372036854775808 ≤ sl ∧ sl ≤ 9223372036854775807) :
    Calls Try.prog 21 #[.agg #[.int .i64 pe, .slice A n c, .int .i64 lo], .agg #[.slice A2 m c2], .int .i64 fr, .int .i64 sl] w fun x w' => x = .returned (.tuple #[mkV fr sl dc pe gt ti (vg && vp && vb), .bool (vg && vp && vb)]) ∧ Below w.heap.size w w' := by
  have HR := Lib.hid hr
  have HP := Lib.hid hp
  have HDC := Lib.hid hdc
  have HTI := Lib.hid hti
  have HVG := Lib.hid hvg
  have HVP := Lib.hid hvp
  have HVB := Lib.hid hvb
  have hgc := gt_cases dc n
  rw [hgt] at hgc
  have HGC := Lib.hid hgc
  have hn := ss64 hr
  have HS := Lib.hid hs
  have B : Below w.heap.size w w := Below.refl _ _
  clear hr hp hdc hti hgt hvg hvp hvb hgc
  go_enter Try.func21, Try.ntmps21
  go_wp2_with fail
  generalize hW : World.alloc _ _ = w1
  have bg : Bk.Blk w1 (w.heap.size) 27 #[.int .i64 pe, .slice A n c, .int .i64 lo] := (by rw [← hW]; apply Bk.Blk.to; (focus (exact Bk.sv)); rfl)
  have bp : Bk.Blk w1 (w.heap.size + 1) 39 #[.slice A2 m c2] := (by rw [← hW]; apply Bk.Blk.to; (focus (exact Bk.sv)); rfl)
  have r0 : Bk.Blk w1 (w.heap.size + 1 + 1) 43 #[.int .i64 0, .int .i64 0, .int .i64 0, .int .i64 0, .bool false, .int .i64 0] := (by rw [← hW]; apply Bk.Blk.to; (focus (exact Bk.sv)); rfl)
  replace B : Below w.heap.size w w1 := (by rw [← hW]; go_grown)
  have z1 : w1.heap.size = _ := congrArg (fun W : World => W.heap.size) hW.symm
  (try simp only [World.size_alloc, Bk.size_set, World.size_drew, World.drewN] at z1)
  clear hW
  refine (validGb_impl pe lo A n c xss _ (HR.out.below B)).mono ?_
  rintro x w2 hsay
  obtain ⟨rfl, hb0⟩ := saysB hsay vg HVG.out
  clear hsay
  replace bg : Bk.Blk w2 (w.heap.size) 27 #[.int .i64 pe, .slice A n c, .int .i64 lo] := Bk.Blk.under hb0 (by exact Bk.sv)
  replace bp : Bk.Blk w2 (w.heap.size + 1) 39 #[.slice A2 m c2] := Bk.Blk.under hb0 (by exact Bk.sv)
  replace r0 : Bk.Blk w2 (w.heap.size + 1 + 1) 43 #[.int .i64 0, .int .i64 0, .int .i64 0, .int .i64 0, .bool false, .int .i64 0] := Bk.Blk.under hb0 (by exact Bk.sv)
  replace B : Below w.heap.size w w2 := Below.trans (by go_grown) (hb0.mono (by first | omega | (simp [Bk.size_set]; done) | (simp [Bk.size_set]; omega)))
  have z2 := hb0.size
  (try simp only [World.size_alloc, Bk.size_set, World.size_drew, World.drewN] at z2)
  clear hb0
  cases vg
  · skip
    have L_bg := Lay.f3 bg
    have L_bp := Lay.f1 bp
    have L_r0 := Lay.f6 r0
    go_wp2_with fail
    clear L_bg L_bp L_r0
    generalize hW : World.setCell _ _ _ = w3
    replace r0 : Bk.Blk w3 (w.heap.size + 1 + 1) 43 #[.int .i64 0, .int .i64 0, .int .i64 0, .int .i64 0, .bool false, .int .i64 0] := (by rw [← hW]; apply Bk.Blk.to; (focus (exact Bk.sv)); rfl)
    replace B : Below w.heap.size w w3 := (by rw [← hW]; go_grown)
    have z3 : w3.heap.size = _ := congrArg (fun W : World => W.heap.size) hW.symm
    (try simp only [World.size_alloc, Bk.size_set, World.size_drew, World.drewN] at z3)
    clear hW
    have L_r0 := Lay.c6 r0
    go_wp2
    refine bodyPost_ret (v := .tuple #[.agg #[.int .i64 0, .int .i64 0, .int .i64 0, .int .i64 0, .bool false, .int .i64 0], .bool false]) (by simp [results, Try.results21, go_sem, L_r0]) rfl (⟨rfl, (by first | exact B | exact B.drew)⟩)
  · skip
    have L_bg := Lay.f3 bg
    have L_bp := Lay.f1 bp
    have L_r0 := Lay.f6 r0
    go_wp2_with fail
    clear L_bg L_bp L_r0
    refine (validPb_impl A2 m c2 ks _ (HP.out.below B)).mono ?_
    rintro x w3 hsay
    obtain ⟨rfl, hb0⟩ := saysB hsay vp HVP.out
    clear hsay
    replace bg : Bk.Blk w3 (w.heap.size) 27 #[.int .i64 pe, .slice A n c, .int .i64 lo] := Bk.Blk.under hb0 (by exact Bk.sv)
    replace bp : Bk.Blk w3 (w.heap.size + 1) 39 #[.slice A2 m c2] := Bk.Blk.under hb0 (by exact Bk.sv)
    replace r0 : Bk.Blk w3 (w.heap.size + 1 + 1) 43 #[.int .i64 0, .int .i64 0, .int .i64 0, .int .i64 0, .bool false, .int .i64 0] := Bk.Blk.under hb0 (by exact Bk.sv)
    replace B : Below w.heap.size w w3 := Below.trans (by go_grown) (hb0.mono (by first | omega | (simp [Bk.size_set]; done) | (simp [Bk.size_set]; omega)))
    have z3 := hb0.size
    (try simp only [World.size_alloc, Bk.size_set, World.size_drew, World.drewN] at z3)
    clear hb0
    cases vp
    · skip
      have L_bg := Lay.f3 bg
      have L_bp := Lay.f1 bp
      have L_r0 := Lay.f6 r0
      go_wp2_with fail
      clear L_bg L_bp L_r0
      generalize hW : World.setCell _ _ _ = w4
      replace r0 : Bk.Blk w4 (w.heap.size + 1 + 1) 43 #[.int .i64 0, .int .i64 0, .int .i64 0, .int .i64 0, .bool false, .int .i64 0] := (by rw [← hW]; apply Bk.Blk.to; (focus (exact Bk.sv)); rfl)
      replace B : Below w.heap.size w w4 := (by rw [← hW]; go_grown)
      have z4 : w4.heap.size = _ := congrArg (fun W : World => W.heap.size) hW.symm
      (try simp only [World.size_alloc, Bk.size_set, World.size_drew, World.drewN] at z4)
      clear hW
      have L_r0 := Lay.c6 r0
      go_wp2
      refine bodyPost_ret (v := .tuple #[.agg #[.int .i64 0, .int .i64 0, .int .i64 0, .int .i64 0, .bool false, .int .i64 0], .bool false]) (by simp [results, Try.results21, go_sem, L_r0]) rfl (⟨rfl, (by first | exact B | exact B.drew)⟩)
    · skip
      have L_bg := Lay.f3 bg
      have L_bp := Lay.f1 bp
      have L_r0 := Lay.f6 r0
      go_wp2_with (first | (go_at_call 69; refine (Bcn.dtim_any sl pe _ HS.out).mono ?_; rintro e w' ⟨rfl, rfl⟩; rw [HDC.out]))
      clear L_bg L_bp L_r0
      go_upto_region 4 with fail
      go_cut [11] (fun v wx => ∃ pb : Nat, v = .pointer (some ⟨pb, 0, none⟩) ∧ w.heap.size + 1 + 1 < pb ∧ Bk.Blk wx pb 43 #[.int .i64 fr, .int .i64 sl, .int .i64 dc, .int .i64 pe, .bool gt, .int .i64 ti] ∧ Bk.Blk wx w.heap.size 27 #[.int .i64 pe, .slice A n c, .int .i64 lo] ∧ Bk.Blk wx (w.heap.size + 1) 39 #[.slice A2 m c2] ∧ Bk.Blk wx (w.heap.size + 1 + 1) 43 #[.int .i64 0, .int .i64 0, .int .i64 0, .int .i64 0, .bool false, .int .i64 0] ∧ Below w.heap.size w wx)
      case first =>
        have hgc := HGC.out
        rcases hgc with ⟨e0, hg⟩ | ⟨e0, e1, hg⟩ | ⟨e0, e1, hg⟩
        · skip
          (try have e1i : decide ((0 : Int) < (n : Int)) = decide (0 < n) := by simp)
          (try rw [e1] at e1i)
          have HG := Lib.hid hg
          clear hg
          have L_bg := Lay.f3 bg
          have L_bp := Lay.f1 bp
          refine wp_region_held_drew (S := (fun w' => Bk.Blk w' (w.heap.size) 27 #[.int .i64 pe, .slice A n c, .int .i64 lo] ∧ Bk.Blk w' (w.heap.size + 1) 39 #[.slice A2 m c2])) (by kernel_rfl) ?_ (fun hHeld => ?_)
          · (try dsimp only); (refine ⟨?_, ?_⟩ <;> exact Bk.sv)
          first | (refine Reg.tkC 0 ?_ (Reg.get rfl) ?_ hHeld ?_; rotate_left 1; (focus (intro wq hSw; (try dsimp only at hSw); obtain ⟨s_bg, s_bp⟩ := hSw; have L_bg := Lay.c3 s_bg; have L_bp := Lay.c1 s_bp;  go_simp <;> with_reducible rfl))) | (refine Reg.tkB 0 (Reg.get rfl) hHeld ?_)
          try simp only [Act.put, List.setIfInBounds_toArray, List.set_cons_zero, List.set_cons_succ]
          first | (refine Reg.tkC 1 ?_ (Reg.get rfl) ?_ hHeld ?_; rotate_left 1; (focus (intro wq hSw; (try dsimp only at hSw); obtain ⟨s_bg, s_bp⟩ := hSw; have L_bg := Lay.c3 s_bg; have L_bp := Lay.c1 s_bp;  go_simp <;> with_reducible rfl))) | (refine Reg.tkB 1 (Reg.get rfl) hHeld ?_)
          try simp only [Act.put, List.setIfInBounds_toArray, List.set_cons_zero, List.set_cons_succ]
          first | (refine Reg.tkC 2 ?_ (Reg.get rfl) ?_ hHeld ?_; rotate_left 1; (focus (intro wq hSw; (try dsimp only at hSw); obtain ⟨s_bg, s_bp⟩ := hSw; have L_bg := Lay.c3 s_bg; have L_bp := Lay.c1 s_bp;  go_simp <;> with_reducible rfl))) | (refine Reg.tkB 2 (Reg.get rfl) hHeld ?_)
          try simp only [Act.put, List.setIfInBounds_toArray, List.set_cons_zero, List.set_cons_succ]
          first | (refine Reg.tkC 3 ?_ (Reg.get rfl) ?_ hHeld ?_; rotate_left 1; (focus (intro wq hSw; (try dsimp only at hSw); obtain ⟨s_bg, s_bp⟩ := hSw; have L_bg := Lay.c3 s_bg; have L_bp := Lay.c1 s_bp;  go_simp <;> with_reducible rfl))) | (refine Reg.tkB 3 (Reg.get rfl) hHeld ?_)
          try simp only [Act.put, List.setIfInBounds_toArray, List.set_cons_zero, List.set_cons_succ]
          first | (refine Reg.tkC 4 ?_ (Reg.get rfl) ?_ hHeld ?_; rotate_left 1; (focus (intro wq hSw; (try dsimp only at hSw); obtain ⟨s_bg, s_bp⟩ := hSw; have L_bg := Lay.c3 s_bg; have L_bp := Lay.c1 s_bp;  go_simp <;> with_reducible rfl))) | (refine Reg.tkB 4 (Reg.get rfl) hHeld ?_)
          try simp only [Act.put, List.setIfInBounds_toArray, List.set_cons_zero, List.set_cons_succ]
          first | (refine Reg.tkC 5 ?_ (Reg.get rfl) ?_ hHeld ?_; rotate_left 1; (focus (intro wq hSw; (try dsimp only at hSw); obtain ⟨s_bg, s_bp⟩ := hSw; have L_bg := Lay.c3 s_bg; have L_bp := Lay.c1 s_bp;  go_simp <;> with_reducible rfl))) | (refine Reg.tkB 5 (Reg.get rfl) hHeld ?_)
          try simp only [Act.put, List.setIfInBounds_toArray, List.set_cons_zero, List.set_cons_succ]
          first | (refine Reg.tkC 6 ?_ (Reg.get rfl) ?_ hHeld ?_; rotate_left 1; (focus (intro wq hSw; (try dsimp only at hSw); obtain ⟨s_bg, s_bp⟩ := hSw; have L_bg := Lay.c3 s_bg; have L_bp := Lay.c1 s_bp;  go_simp <;> with_reducible rfl))) | (refine Reg.tkB 6 (Reg.get rfl) hHeld ?_)
          try simp only [Act.put, List.setIfInBounds_toArray, List.set_cons_zero, List.set_cons_succ]
          first | (refine Reg.tkC 7 ?_ (Reg.get rfl) ?_ hHeld ?_; rotate_left 1; (focus (intro wq hSw; (try dsimp only at hSw); obtain ⟨s_bg, s_bp⟩ := hSw; have L_bg := Lay.c3 s_bg; have L_bp := Lay.c1 s_bp;  go_simp <;> with_reducible rfl))) | (refine Reg.tkB 7 (Reg.get rfl) hHeld ?_)
          try simp only [Act.put, List.setIfInBounds_toArray, List.set_cons_zero, List.set_cons_succ]
          first | (refine Reg.tkC 8 ?_ (Reg.get rfl) ?_ hHeld ?_; rotate_left 1; (focus (intro wq hSw; (try dsimp only at hSw); obtain ⟨s_bg, s_bp⟩ := hSw; have L_bg := Lay.c3 s_bg; have L_bp := Lay.c1 s_bp;  go_simp <;> with_reducible rfl))) | (refine Reg.tkB 8 (Reg.get rfl) hHeld ?_)
          try simp only [Act.put, List.setIfInBounds_toArray, List.set_cons_zero, List.set_cons_succ]
          first | (refine Reg.tkC 9 ?_ (Reg.get rfl) ?_ hHeld ?_; rotate_left 1; (focus (intro wq hSw; (try dsimp only at hSw); obtain ⟨s_bg, s_bp⟩ := hSw; have L_bg := Lay.c3 s_bg; have L_bp := Lay.c1 s_bp;  go_simp <;> with_reducible rfl))) | (refine Reg.tkB 9 (Reg.get rfl) hHeld ?_)
          try simp only [Act.put, List.setIfInBounds_toArray, List.set_cons_zero, List.set_cons_succ]
          first | (refine Reg.tkC 10 ?_ (Reg.get rfl) ?_ hHeld ?_; rotate_left 1; (focus (intro wq hSw; (try dsimp only at hSw); obtain ⟨s_bg, s_bp⟩ := hSw; have L_bg := Lay.c3 s_bg; have L_bp := Lay.c1 s_bp;  go_simp <;> with_reducible rfl))) | (refine Reg.tkB 10 (Reg.get rfl) hHeld ?_)
          try simp only [Act.put, List.setIfInBounds_toArray, List.set_cons_zero, List.set_cons_succ]
          first | (refine Reg.tkC 11 ?_ (Reg.get rfl) ?_ hHeld ?_; rotate_left 1; (focus (intro wq hSw; (try dsimp only at hSw); obtain ⟨s_bg, s_bp⟩ := hSw; have L_bg := Lay.c3 s_bg; have L_bp := Lay.c1 s_bp;  go_simp <;> with_reducible rfl))) | (refine Reg.tkB 11 (Reg.get rfl) hHeld ?_)
          try simp only [Act.put, List.setIfInBounds_toArray, List.set_cons_zero, List.set_cons_succ]
          first | (refine Reg.tkC 12 ?_ (Reg.get rfl) ?_ hHeld ?_; rotate_left 1; (focus (intro wq hSw; (try dsimp only at hSw); obtain ⟨s_bg, s_bp⟩ := hSw; have L_bg := Lay.c3 s_bg; have L_bp := Lay.c1 s_bp;  go_simp <;> with_reducible rfl))) | (refine Reg.tkB 12 (Reg.get rfl) hHeld ?_)
          try simp only [Act.put, List.setIfInBounds_toArray, List.set_cons_zero, List.set_cons_succ]
          first | (refine Reg.tkC 13 ?_ (Reg.get rfl) ?_ hHeld ?_; rotate_left 1; (focus (intro wq hSw; (try dsimp only at hSw); obtain ⟨s_bg, s_bp⟩ := hSw; have L_bg := Lay.c3 s_bg; have L_bp := Lay.c1 s_bp;  go_simp <;> with_reducible rfl))) | (refine Reg.tkB 13 (Reg.get rfl) hHeld ?_)
          try simp only [Act.put, List.setIfInBounds_toArray, List.set_cons_zero, List.set_cons_succ]
          refine wpAnyH_ready (rs := [14, 16]) (by kernel_rfl) (by simp) ?_
          refine (AllReadyH.cons (Reg.get rfl) (fun K hK => ?_) (AllReadyH.cons (Reg.get rfl) (fun K hK => ?_) AllReadyH.nil))
          
          · skip
            clear hHeld; go_simp; ((go_at_call 48; refine (tim_impl A2 m c2 ks _ (by first | exact HP.out.below B | exact HP.out.below B.drew)).mono ?_; rintro x w5 ⟨rfl, hb0⟩; rw [HTI.out]; (try (first | replace PBB := blk_underM PBB hb0 | replace PBB := blk_underM (blk_drewM PBB) hb0)); (first | replace bg := blk_underM bg hb0 | replace bg := blk_underM (blk_drewM bg) hb0); (first | replace bp := blk_underM bp hb0 | replace bp := blk_underM (blk_drewM bp) hb0); (first | replace r0 := blk_underM r0 hb0 | replace r0 := blk_underM (blk_drewM r0) hb0); (first | replace B := Below.trans B (hb0.mono (by first | omega | (simp; done) | (simp; omega))) | replace B := Below.trans B.drew (hb0.mono (by first | omega | (simp; done) | (simp; omega)))); have z5 := hb0.size; (try simp only [World.size_drew] at z5); clear hb0; (try clear L_bg L_bp); have L_bg := Lay.f3 bg; have L_bp := Lay.f1 bp)); refine hK.out _ _ ?_ (fun hHeld => ?_); ((try dsimp only); (refine ⟨?_, ?_⟩ <;> exact Bk.sv)); clear hK K
            try simp only [Act.put, List.setIfInBounds_toArray, List.set_cons_zero, List.set_cons_succ]
            first | (refine Reg.tkC 15 ?_ (Reg.get rfl) ?_ hHeld ?_; rotate_left 1; (focus (intro wq hSw; (try dsimp only at hSw); obtain ⟨s_bg, s_bp⟩ := hSw; have L_bg := Lay.c3 s_bg; have L_bp := Lay.c1 s_bp;  go_simp <;> with_reducible rfl))) | (refine Reg.tkB 15 (Reg.get rfl) hHeld ?_)
            try simp only [Act.put, List.setIfInBounds_toArray, List.set_cons_zero, List.set_cons_succ]
            first | ((refine Reg.tkB 16 (Reg.get rfl) hHeld ?_)) | (refine wpAnyH_ready (rs := [16]) (by kernel_rfl) (by simp) ?_; refine AllReadyH.cons (Reg.get rfl) (fun K hK => ?_) AllReadyH.nil; clear hHeld; go_simp; ((generalize hW : World.alloc _ _ = w6; have PBB := blk_newM hW; (try simp only [World.size_drew] at PBB); (first | replace bg := blk_toM bg hW | replace bg := blk_toM (blk_drewM bg) hW); (first | replace bp := blk_toM bp hW | replace bp := blk_toM (blk_drewM bp) hW); (first | replace r0 := blk_toM r0 hW | replace r0 := blk_toM (blk_drewM r0) hW); replace B : Below w.heap.size w w6 := (by rw [← hW]; go_grown); have z6 := size_toA hW; (try simp only [World.size_drew] at z6); clear hW; (try clear L_bg L_bp); have L_bg := Lay.f3 bg; have L_bp := Lay.f1 bp)); refine hK.out _ _ ?_ (fun hHeld => ?_); ((try dsimp only); (refine ⟨?_, ?_⟩ <;> exact Bk.sv)); clear hK K)
            try simp only [Act.put, List.setIfInBounds_toArray, List.set_cons_zero, List.set_cons_succ]
            first | ((refine Reg.tkB 17 (Reg.get rfl) hHeld ?_)) | (refine wpAnyH_ready (rs := [17]) (by kernel_rfl) (by simp) ?_; refine AllReadyH.cons (Reg.get rfl) (fun K hK => ?_) AllReadyH.nil; clear hHeld; ((refine Sto.wp_store 43 (.tmp 11) (.tmp 40) (by rfl) _ 43 _ [.int .i64 fr, .int .i64 sl, .int .i64 dc, .int .i64 pe, .bool false, .int .i64 ti] (by rfl) (by rfl) (by first | exact PBB | exact PBB.drew) (by rfl) (by kernel_rfl) (by rfl) ?_; intro w7 hb0 hg0 hs0; have zP := PBB.lt; (first | replace bg := blk_grM hg0 (fun e => by injection e with e; omega) bg | replace bg := blk_grM hg0 (fun e => by injection e with e; omega) bg.drew); (first | replace bp := blk_grM hg0 (fun e => by injection e with e; omega) bp | replace bp := blk_grM hg0 (fun e => by injection e with e; omega) bp.drew); (first | replace r0 := blk_grM hg0 (fun e => by injection e with e; omega) r0 | replace r0 := blk_grM hg0 (fun e => by injection e with e; omega) r0.drew); (first | replace B := below_grM B hg0 (by omega) | replace B := below_grM B.drew hg0 (by omega)); replace PBB := hb0; clear hb0 hg0; (try clear L_bg L_bp); have L_bg := Lay.f3 bg; have L_bp := Lay.f1 bp)); refine hK.out _ _ ?_ (fun hHeld => ?_); ((try dsimp only); (refine ⟨?_, ?_⟩ <;> exact Bk.sv)); clear hK K)
            try simp only [Act.put, List.setIfInBounds_toArray, List.set_cons_zero, List.set_cons_succ]
            refine wpAnyH_done (by kernel_rfl) ?_ _
            (try clear L_bg L_bp)
            go_wp2_with fail
            go_meet
            exact ⟨_, rfl, by omega, (by rw [HG.out]; first | exact PBB | exact PBB.drew), (by first | exact bg | exact bg.drew), (by first | exact bp | exact bp.drew), (by first | exact r0 | exact r0.drew), (by first | exact B | exact B.drew)⟩
          
          · skip
            clear hHeld; go_simp; ((generalize hW : World.alloc _ _ = w6; have PBB := blk_newM hW; (try simp only [World.size_drew] at PBB); (first | replace bg := blk_toM bg hW | replace bg := blk_toM (blk_drewM bg) hW); (first | replace bp := blk_toM bp hW | replace bp := blk_toM (blk_drewM bp) hW); (first | replace r0 := blk_toM r0 hW | replace r0 := blk_toM (blk_drewM r0) hW); replace B : Below w.heap.size w w6 := (by rw [← hW]; go_grown); have z6 := size_toA hW; (try simp only [World.size_drew] at z6); clear hW; (try clear L_bg L_bp); have L_bg := Lay.f3 bg; have L_bp := Lay.f1 bp)); refine hK.out _ _ ?_ (fun hHeld => ?_); ((try dsimp only); (refine ⟨?_, ?_⟩ <;> exact Bk.sv)); clear hK K
            try simp only [Act.put, List.setIfInBounds_toArray, List.set_cons_zero, List.set_cons_succ]
            first | ((refine Reg.tkB 14 (Reg.get rfl) hHeld ?_)) | (refine wpAnyH_ready (rs := [14]) (by kernel_rfl) (by simp) ?_; refine AllReadyH.cons (Reg.get rfl) (fun K hK => ?_) AllReadyH.nil; clear hHeld; go_simp; ((go_at_call 48; refine (tim_impl A2 m c2 ks _ (by first | exact HP.out.below B | exact HP.out.below B.drew)).mono ?_; rintro x w5 ⟨rfl, hb0⟩; rw [HTI.out]; (try (first | replace PBB := blk_underM PBB hb0 | replace PBB := blk_underM (blk_drewM PBB) hb0)); (first | replace bg := blk_underM bg hb0 | replace bg := blk_underM (blk_drewM bg) hb0); (first | replace bp := blk_underM bp hb0 | replace bp := blk_underM (blk_drewM bp) hb0); (first | replace r0 := blk_underM r0 hb0 | replace r0 := blk_underM (blk_drewM r0) hb0); (first | replace B := Below.trans B (hb0.mono (by first | omega | (simp; done) | (simp; omega))) | replace B := Below.trans B.drew (hb0.mono (by first | omega | (simp; done) | (simp; omega)))); have z5 := hb0.size; (try simp only [World.size_drew] at z5); clear hb0; (try clear L_bg L_bp); have L_bg := Lay.f3 bg; have L_bp := Lay.f1 bp)); refine hK.out _ _ ?_ (fun hHeld => ?_); ((try dsimp only); (refine ⟨?_, ?_⟩ <;> exact Bk.sv)); clear hK K)
            try simp only [Act.put, List.setIfInBounds_toArray, List.set_cons_zero, List.set_cons_succ]
            first | (refine Reg.tkC 15 ?_ (Reg.get rfl) ?_ hHeld ?_; rotate_left 1; (focus (intro wq hSw; (try dsimp only at hSw); obtain ⟨s_bg, s_bp⟩ := hSw; have L_bg := Lay.c3 s_bg; have L_bp := Lay.c1 s_bp;  go_simp <;> with_reducible rfl))) | (refine Reg.tkB 15 (Reg.get rfl) hHeld ?_)
            try simp only [Act.put, List.setIfInBounds_toArray, List.set_cons_zero, List.set_cons_succ]
            first | ((refine Reg.tkB 17 (Reg.get rfl) hHeld ?_)) | (refine wpAnyH_ready (rs := [17]) (by kernel_rfl) (by simp) ?_; refine AllReadyH.cons (Reg.get rfl) (fun K hK => ?_) AllReadyH.nil; clear hHeld; ((refine Sto.wp_store 43 (.tmp 11) (.tmp 40) (by rfl) _ 43 _ [.int .i64 fr, .int .i64 sl, .int .i64 dc, .int .i64 pe, .bool false, .int .i64 ti] (by rfl) (by rfl) (by first | exact PBB | exact PBB.drew) (by rfl) (by kernel_rfl) (by rfl) ?_; intro w7 hb0 hg0 hs0; have zP := PBB.lt; (first | replace bg := blk_grM hg0 (fun e => by injection e with e; omega) bg | replace bg := blk_grM hg0 (fun e => by injection e with e; omega) bg.drew); (first | replace bp := blk_grM hg0 (fun e => by injection e with e; omega) bp | replace bp := blk_grM hg0 (fun e => by injection e with e; omega) bp.drew); (first | replace r0 := blk_grM hg0 (fun e => by injection e with e; omega) r0 | replace r0 := blk_grM hg0 (fun e => by injection e with e; omega) r0.drew); (first | replace B := below_grM B hg0 (by omega) | replace B := below_grM B.drew hg0 (by omega)); replace PBB := hb0; clear hb0 hg0; (try clear L_bg L_bp); have L_bg := Lay.f3 bg; have L_bp := Lay.f1 bp)); refine hK.out _ _ ?_ (fun hHeld => ?_); ((try dsimp only); (refine ⟨?_, ?_⟩ <;> exact Bk.sv)); clear hK K)
            try simp only [Act.put, List.setIfInBounds_toArray, List.set_cons_zero, List.set_cons_succ]
            refine wpAnyH_done (by kernel_rfl) ?_ _
            (try clear L_bg L_bp)
            go_wp2_with fail
            go_meet
            exact ⟨_, rfl, by omega, (by rw [HG.out]; first | exact PBB | exact PBB.drew), (by first | exact bg | exact bg.drew), (by first | exact bp | exact bp.drew), (by first | exact r0 | exact r0.drew), (by first | exact B | exact B.drew)⟩
        · skip
          (try have e1i : decide ((0 : Int) < (n : Int)) = decide (0 < n) := by simp)
          (try rw [e1] at e1i)
          have HG := Lib.hid hg
          clear hg
          have L_bg := Lay.f3 bg
          have L_bp := Lay.f1 bp
          refine wp_region_held_drew (S := (fun w' => Bk.Blk w' (w.heap.size) 27 #[.int .i64 pe, .slice A n c, .int .i64 lo] ∧ Bk.Blk w' (w.heap.size + 1) 39 #[.slice A2 m c2])) (by kernel_rfl) ?_ (fun hHeld => ?_)
          · (try dsimp only); (refine ⟨?_, ?_⟩ <;> exact Bk.sv)
          first | (refine Reg.tkC 0 ?_ (Reg.get rfl) ?_ hHeld ?_; rotate_left 1; (focus (intro wq hSw; (try dsimp only at hSw); obtain ⟨s_bg, s_bp⟩ := hSw; have L_bg := Lay.c3 s_bg; have L_bp := Lay.c1 s_bp;  go_simp <;> with_reducible rfl))) | (refine Reg.tkB 0 (Reg.get rfl) hHeld ?_)
          try simp only [Act.put, List.setIfInBounds_toArray, List.set_cons_zero, List.set_cons_succ]
          first | (refine Reg.tkC 1 ?_ (Reg.get rfl) ?_ hHeld ?_; rotate_left 1; (focus (intro wq hSw; (try dsimp only at hSw); obtain ⟨s_bg, s_bp⟩ := hSw; have L_bg := Lay.c3 s_bg; have L_bp := Lay.c1 s_bp;  go_simp <;> with_reducible rfl))) | (refine Reg.tkB 1 (Reg.get rfl) hHeld ?_)
          try simp only [Act.put, List.setIfInBounds_toArray, List.set_cons_zero, List.set_cons_succ]
          first | (refine Reg.tkC 2 ?_ (Reg.get rfl) ?_ hHeld ?_; rotate_left 1; (focus (intro wq hSw; (try dsimp only at hSw); obtain ⟨s_bg, s_bp⟩ := hSw; have L_bg := Lay.c3 s_bg; have L_bp := Lay.c1 s_bp;  go_simp <;> with_reducible rfl))) | (refine Reg.tkB 2 (Reg.get rfl) hHeld ?_)
          try simp only [Act.put, List.setIfInBounds_toArray, List.set_cons_zero, List.set_cons_succ]
          first | (refine Reg.tkC 3 ?_ (Reg.get rfl) ?_ hHeld ?_; rotate_left 1; (focus (intro wq hSw; (try dsimp only at hSw); obtain ⟨s_bg, s_bp⟩ := hSw; have L_bg := Lay.c3 s_bg; have L_bp := Lay.c1 s_bp;  go_simp <;> with_reducible rfl))) | (refine Reg.tkB 3 (Reg.get rfl) hHeld ?_)
          try simp only [Act.put, List.setIfInBounds_toArray, List.set_cons_zero, List.set_cons_succ]
          first | (refine Reg.tkC 4 ?_ (Reg.get rfl) ?_ hHeld ?_; rotate_left 1; (focus (intro wq hSw; (try dsimp only at hSw); obtain ⟨s_bg, s_bp⟩ := hSw; have L_bg := Lay.c3 s_bg; have L_bp := Lay.c1 s_bp;  go_simp <;> with_reducible rfl))) | (refine Reg.tkB 4 (Reg.get rfl) hHeld ?_)
          try simp only [Act.put, List.setIfInBounds_toArray, List.set_cons_zero, List.set_cons_succ]
          first | (refine Reg.tkC 5 ?_ (Reg.get rfl) ?_ hHeld ?_; rotate_left 1; (focus (intro wq hSw; (try dsimp only at hSw); obtain ⟨s_bg, s_bp⟩ := hSw; have L_bg := Lay.c3 s_bg; have L_bp := Lay.c1 s_bp;  go_simp <;> with_reducible rfl))) | (refine Reg.tkB 5 (Reg.get rfl) hHeld ?_)
          try simp only [Act.put, List.setIfInBounds_toArray, List.set_cons_zero, List.set_cons_succ]
          first | (refine Reg.tkC 6 ?_ (Reg.get rfl) ?_ hHeld ?_; rotate_left 1; (focus (intro wq hSw; (try dsimp only at hSw); obtain ⟨s_bg, s_bp⟩ := hSw; have L_bg := Lay.c3 s_bg; have L_bp := Lay.c1 s_bp;  go_simp <;> with_reducible rfl))) | (refine Reg.tkB 6 (Reg.get rfl) hHeld ?_)
          try simp only [Act.put, List.setIfInBounds_toArray, List.set_cons_zero, List.set_cons_succ]
          first | (refine Reg.tkC 7 ?_ (Reg.get rfl) ?_ hHeld ?_; rotate_left 1; (focus (intro wq hSw; (try dsimp only at hSw); obtain ⟨s_bg, s_bp⟩ := hSw; have L_bg := Lay.c3 s_bg; have L_bp := Lay.c1 s_bp;  go_simp <;> with_reducible rfl))) | (refine Reg.tkB 7 (Reg.get rfl) hHeld ?_)
          try simp only [Act.put, List.setIfInBounds_toArray, List.set_cons_zero, List.set_cons_succ]
          first | (refine Reg.tkC 8 ?_ (Reg.get rfl) ?_ hHeld ?_; rotate_left 1; (focus (intro wq hSw; (try dsimp only at hSw); obtain ⟨s_bg, s_bp⟩ := hSw; have L_bg := Lay.c3 s_bg; have L_bp := Lay.c1 s_bp;  go_simp <;> with_reducible rfl))) | (refine Reg.tkB 8 (Reg.get rfl) hHeld ?_)
          try simp only [Act.put, List.setIfInBounds_toArray, List.set_cons_zero, List.set_cons_succ]
          first | (refine Reg.tkC 9 ?_ (Reg.get rfl) ?_ hHeld ?_; rotate_left 1; (focus (intro wq hSw; (try dsimp only at hSw); obtain ⟨s_bg, s_bp⟩ := hSw; have L_bg := Lay.c3 s_bg; have L_bp := Lay.c1 s_bp;  go_simp <;> with_reducible rfl))) | (refine Reg.tkB 9 (Reg.get rfl) hHeld ?_)
          try simp only [Act.put, List.setIfInBounds_toArray, List.set_cons_zero, List.set_cons_succ]
          first | (refine Reg.tkC 10 ?_ (Reg.get rfl) ?_ hHeld ?_; rotate_left 1; (focus (intro wq hSw; (try dsimp only at hSw); obtain ⟨s_bg, s_bp⟩ := hSw; have L_bg := Lay.c3 s_bg; have L_bp := Lay.c1 s_bp;  go_simp <;> with_reducible rfl))) | (refine Reg.tkB 10 (Reg.get rfl) hHeld ?_)
          try simp only [Act.put, List.setIfInBounds_toArray, List.set_cons_zero, List.set_cons_succ]
          first | (refine Reg.tkC 11 ?_ (Reg.get rfl) ?_ hHeld ?_; rotate_left 1; (focus (intro wq hSw; (try dsimp only at hSw); obtain ⟨s_bg, s_bp⟩ := hSw; have L_bg := Lay.c3 s_bg; have L_bp := Lay.c1 s_bp;  go_simp <;> with_reducible rfl))) | (refine Reg.tkB 11 (Reg.get rfl) hHeld ?_)
          try simp only [Act.put, List.setIfInBounds_toArray, List.set_cons_zero, List.set_cons_succ]
          first | (refine Reg.tkC 12 ?_ (Reg.get rfl) ?_ hHeld ?_; rotate_left 1; (focus (intro wq hSw; (try dsimp only at hSw); obtain ⟨s_bg, s_bp⟩ := hSw; have L_bg := Lay.c3 s_bg; have L_bp := Lay.c1 s_bp;  go_simp <;> with_reducible rfl))) | (refine Reg.tkB 12 (Reg.get rfl) hHeld ?_)
          try simp only [Act.put, List.setIfInBounds_toArray, List.set_cons_zero, List.set_cons_succ]
          first | (refine Reg.tkC 13 ?_ (Reg.get rfl) ?_ hHeld ?_; rotate_left 1; (focus (intro wq hSw; (try dsimp only at hSw); obtain ⟨s_bg, s_bp⟩ := hSw; have L_bg := Lay.c3 s_bg; have L_bp := Lay.c1 s_bp;  go_simp <;> with_reducible rfl))) | (refine Reg.tkB 13 (Reg.get rfl) hHeld ?_)
          try simp only [Act.put, List.setIfInBounds_toArray, List.set_cons_zero, List.set_cons_succ]
          refine wpAnyH_ready (rs := [14, 16]) (by kernel_rfl) (by simp) ?_
          refine (AllReadyH.cons (Reg.get rfl) (fun K hK => ?_) (AllReadyH.cons (Reg.get rfl) (fun K hK => ?_) AllReadyH.nil))
          
          · skip
            clear hHeld; go_simp; ((go_at_call 48; refine (tim_impl A2 m c2 ks _ (by first | exact HP.out.below B | exact HP.out.below B.drew)).mono ?_; rintro x w5 ⟨rfl, hb0⟩; rw [HTI.out]; (try (first | replace PBB := blk_underM PBB hb0 | replace PBB := blk_underM (blk_drewM PBB) hb0)); (first | replace bg := blk_underM bg hb0 | replace bg := blk_underM (blk_drewM bg) hb0); (first | replace bp := blk_underM bp hb0 | replace bp := blk_underM (blk_drewM bp) hb0); (first | replace r0 := blk_underM r0 hb0 | replace r0 := blk_underM (blk_drewM r0) hb0); (first | replace B := Below.trans B (hb0.mono (by first | omega | (simp; done) | (simp; omega))) | replace B := Below.trans B.drew (hb0.mono (by first | omega | (simp; done) | (simp; omega)))); have z5 := hb0.size; (try simp only [World.size_drew] at z5); clear hb0; (try clear L_bg L_bp); have L_bg := Lay.f3 bg; have L_bp := Lay.f1 bp)); refine hK.out _ _ ?_ (fun hHeld => ?_); ((try dsimp only); (refine ⟨?_, ?_⟩ <;> exact Bk.sv)); clear hK K
            try simp only [Act.put, List.setIfInBounds_toArray, List.set_cons_zero, List.set_cons_succ]
            first | (refine Reg.tkC 15 ?_ (Reg.get rfl) ?_ hHeld ?_; rotate_left 1; (focus (intro wq hSw; (try dsimp only at hSw); obtain ⟨s_bg, s_bp⟩ := hSw; have L_bg := Lay.c3 s_bg; have L_bp := Lay.c1 s_bp;  go_simp <;> with_reducible rfl))) | (refine Reg.tkB 15 (Reg.get rfl) hHeld ?_)
            try simp only [Act.put, List.setIfInBounds_toArray, List.set_cons_zero, List.set_cons_succ]
            first | ((refine Reg.tkB 16 (Reg.get rfl) hHeld ?_)) | (refine wpAnyH_ready (rs := [16]) (by kernel_rfl) (by simp) ?_; refine AllReadyH.cons (Reg.get rfl) (fun K hK => ?_) AllReadyH.nil; clear hHeld; go_simp; ((generalize hW : World.alloc _ _ = w6; have PBB := blk_newM hW; (try simp only [World.size_drew] at PBB); (first | replace bg := blk_toM bg hW | replace bg := blk_toM (blk_drewM bg) hW); (first | replace bp := blk_toM bp hW | replace bp := blk_toM (blk_drewM bp) hW); (first | replace r0 := blk_toM r0 hW | replace r0 := blk_toM (blk_drewM r0) hW); replace B : Below w.heap.size w w6 := (by rw [← hW]; go_grown); have z6 := size_toA hW; (try simp only [World.size_drew] at z6); clear hW; (try clear L_bg L_bp); have L_bg := Lay.f3 bg; have L_bp := Lay.f1 bp)); refine hK.out _ _ ?_ (fun hHeld => ?_); ((try dsimp only); (refine ⟨?_, ?_⟩ <;> exact Bk.sv)); clear hK K)
            try simp only [Act.put, List.setIfInBounds_toArray, List.set_cons_zero, List.set_cons_succ]
            first | ((refine Reg.tkB 17 (Reg.get rfl) hHeld ?_)) | (refine wpAnyH_ready (rs := [17]) (by kernel_rfl) (by simp) ?_; refine AllReadyH.cons (Reg.get rfl) (fun K hK => ?_) AllReadyH.nil; clear hHeld; ((refine Sto.wp_store 43 (.tmp 11) (.tmp 40) (by rfl) _ 43 _ [.int .i64 fr, .int .i64 sl, .int .i64 dc, .int .i64 pe, .bool false, .int .i64 ti] (by rfl) (by rfl) (by first | exact PBB | exact PBB.drew) (by rfl) (by kernel_rfl) (by rfl) ?_; intro w7 hb0 hg0 hs0; have zP := PBB.lt; (first | replace bg := blk_grM hg0 (fun e => by injection e with e; omega) bg | replace bg := blk_grM hg0 (fun e => by injection e with e; omega) bg.drew); (first | replace bp := blk_grM hg0 (fun e => by injection e with e; omega) bp | replace bp := blk_grM hg0 (fun e => by injection e with e; omega) bp.drew); (first | replace r0 := blk_grM hg0 (fun e => by injection e with e; omega) r0 | replace r0 := blk_grM hg0 (fun e => by injection e with e; omega) r0.drew); (first | replace B := below_grM B hg0 (by omega) | replace B := below_grM B.drew hg0 (by omega)); replace PBB := hb0; clear hb0 hg0; (try clear L_bg L_bp); have L_bg := Lay.f3 bg; have L_bp := Lay.f1 bp)); refine hK.out _ _ ?_ (fun hHeld => ?_); ((try dsimp only); (refine ⟨?_, ?_⟩ <;> exact Bk.sv)); clear hK K)
            try simp only [Act.put, List.setIfInBounds_toArray, List.set_cons_zero, List.set_cons_succ]
            refine wpAnyH_done (by kernel_rfl) ?_ _
            (try clear L_bg L_bp)
            go_wp2_with fail
            go_meet
            exact ⟨_, rfl, by omega, (by rw [HG.out]; first | exact PBB | exact PBB.drew), (by first | exact bg | exact bg.drew), (by first | exact bp | exact bp.drew), (by first | exact r0 | exact r0.drew), (by first | exact B | exact B.drew)⟩
          
          · skip
            clear hHeld; go_simp; ((generalize hW : World.alloc _ _ = w6; have PBB := blk_newM hW; (try simp only [World.size_drew] at PBB); (first | replace bg := blk_toM bg hW | replace bg := blk_toM (blk_drewM bg) hW); (first | replace bp := blk_toM bp hW | replace bp := blk_toM (blk_drewM bp) hW); (first | replace r0 := blk_toM r0 hW | replace r0 := blk_toM (blk_drewM r0) hW); replace B : Below w.heap.size w w6 := (by rw [← hW]; go_grown); have z6 := size_toA hW; (try simp only [World.size_drew] at z6); clear hW; (try clear L_bg L_bp); have L_bg := Lay.f3 bg; have L_bp := Lay.f1 bp)); refine hK.out _ _ ?_ (fun hHeld => ?_); ((try dsimp only); (refine ⟨?_, ?_⟩ <;> exact Bk.sv)); clear hK K
            try simp only [Act.put, List.setIfInBounds_toArray, List.set_cons_zero, List.set_cons_succ]
            first | ((refine Reg.tkB 14 (Reg.get rfl) hHeld ?_)) | (refine wpAnyH_ready (rs := [14]) (by kernel_rfl) (by simp) ?_; refine AllReadyH.cons (Reg.get rfl) (fun K hK => ?_) AllReadyH.nil; clear hHeld; go_simp; ((go_at_call 48; refine (tim_impl A2 m c2 ks _ (by first | exact HP.out.below B | exact HP.out.below B.drew)).mono ?_; rintro x w5 ⟨rfl, hb0⟩; rw [HTI.out]; (try (first | replace PBB := blk_underM PBB hb0 | replace PBB := blk_underM (blk_drewM PBB) hb0)); (first | replace bg := blk_underM bg hb0 | replace bg := blk_underM (blk_drewM bg) hb0); (first | replace bp := blk_underM bp hb0 | replace bp := blk_underM (blk_drewM bp) hb0); (first | replace r0 := blk_underM r0 hb0 | replace r0 := blk_underM (blk_drewM r0) hb0); (first | replace B := Below.trans B (hb0.mono (by first | omega | (simp; done) | (simp; omega))) | replace B := Below.trans B.drew (hb0.mono (by first | omega | (simp; done) | (simp; omega)))); have z5 := hb0.size; (try simp only [World.size_drew] at z5); clear hb0; (try clear L_bg L_bp); have L_bg := Lay.f3 bg; have L_bp := Lay.f1 bp)); refine hK.out _ _ ?_ (fun hHeld => ?_); ((try dsimp only); (refine ⟨?_, ?_⟩ <;> exact Bk.sv)); clear hK K)
            try simp only [Act.put, List.setIfInBounds_toArray, List.set_cons_zero, List.set_cons_succ]
            first | (refine Reg.tkC 15 ?_ (Reg.get rfl) ?_ hHeld ?_; rotate_left 1; (focus (intro wq hSw; (try dsimp only at hSw); obtain ⟨s_bg, s_bp⟩ := hSw; have L_bg := Lay.c3 s_bg; have L_bp := Lay.c1 s_bp;  go_simp <;> with_reducible rfl))) | (refine Reg.tkB 15 (Reg.get rfl) hHeld ?_)
            try simp only [Act.put, List.setIfInBounds_toArray, List.set_cons_zero, List.set_cons_succ]
            first | ((refine Reg.tkB 17 (Reg.get rfl) hHeld ?_)) | (refine wpAnyH_ready (rs := [17]) (by kernel_rfl) (by simp) ?_; refine AllReadyH.cons (Reg.get rfl) (fun K hK => ?_) AllReadyH.nil; clear hHeld; ((refine Sto.wp_store 43 (.tmp 11) (.tmp 40) (by rfl) _ 43 _ [.int .i64 fr, .int .i64 sl, .int .i64 dc, .int .i64 pe, .bool false, .int .i64 ti] (by rfl) (by rfl) (by first | exact PBB | exact PBB.drew) (by rfl) (by kernel_rfl) (by rfl) ?_; intro w7 hb0 hg0 hs0; have zP := PBB.lt; (first | replace bg := blk_grM hg0 (fun e => by injection e with e; omega) bg | replace bg := blk_grM hg0 (fun e => by injection e with e; omega) bg.drew); (first | replace bp := blk_grM hg0 (fun e => by injection e with e; omega) bp | replace bp := blk_grM hg0 (fun e => by injection e with e; omega) bp.drew); (first | replace r0 := blk_grM hg0 (fun e => by injection e with e; omega) r0 | replace r0 := blk_grM hg0 (fun e => by injection e with e; omega) r0.drew); (first | replace B := below_grM B hg0 (by omega) | replace B := below_grM B.drew hg0 (by omega)); replace PBB := hb0; clear hb0 hg0; (try clear L_bg L_bp); have L_bg := Lay.f3 bg; have L_bp := Lay.f1 bp)); refine hK.out _ _ ?_ (fun hHeld => ?_); ((try dsimp only); (refine ⟨?_, ?_⟩ <;> exact Bk.sv)); clear hK K)
            try simp only [Act.put, List.setIfInBounds_toArray, List.set_cons_zero, List.set_cons_succ]
            refine wpAnyH_done (by kernel_rfl) ?_ _
            (try clear L_bg L_bp)
            go_wp2_with fail
            go_meet
            exact ⟨_, rfl, by omega, (by rw [HG.out]; first | exact PBB | exact PBB.drew), (by first | exact bg | exact bg.drew), (by first | exact bp | exact bp.drew), (by first | exact r0 | exact r0.drew), (by first | exact B | exact B.drew)⟩
        · skip
          (try have e1i : decide ((0 : Int) < (n : Int)) = decide (0 < n) := by simp)
          (try rw [e1] at e1i)
          have HG := Lib.hid hg
          clear hg
          have L_bg := Lay.f3 bg
          have L_bp := Lay.f1 bp
          refine wp_region_held_drew (S := (fun w' => Bk.Blk w' (w.heap.size) 27 #[.int .i64 pe, .slice A n c, .int .i64 lo] ∧ Bk.Blk w' (w.heap.size + 1) 39 #[.slice A2 m c2])) (by kernel_rfl) ?_ (fun hHeld => ?_)
          · (try dsimp only); (refine ⟨?_, ?_⟩ <;> exact Bk.sv)
          first | (refine Reg.tkC 0 ?_ (Reg.get rfl) ?_ hHeld ?_; rotate_left 1; (focus (intro wq hSw; (try dsimp only at hSw); obtain ⟨s_bg, s_bp⟩ := hSw; have L_bg := Lay.c3 s_bg; have L_bp := Lay.c1 s_bp;  go_simp <;> with_reducible rfl))) | (refine Reg.tkB 0 (Reg.get rfl) hHeld ?_)
          try simp only [Act.put, List.setIfInBounds_toArray, List.set_cons_zero, List.set_cons_succ]
          first | (refine Reg.tkC 1 ?_ (Reg.get rfl) ?_ hHeld ?_; rotate_left 1; (focus (intro wq hSw; (try dsimp only at hSw); obtain ⟨s_bg, s_bp⟩ := hSw; have L_bg := Lay.c3 s_bg; have L_bp := Lay.c1 s_bp;  go_simp <;> with_reducible rfl))) | (refine Reg.tkB 1 (Reg.get rfl) hHeld ?_)
          try simp only [Act.put, List.setIfInBounds_toArray, List.set_cons_zero, List.set_cons_succ]
          first | (refine Reg.tkC 2 ?_ (Reg.get rfl) ?_ hHeld ?_; rotate_left 1; (focus (intro wq hSw; (try dsimp only at hSw); obtain ⟨s_bg, s_bp⟩ := hSw; have L_bg := Lay.c3 s_bg; have L_bp := Lay.c1 s_bp;  go_simp <;> with_reducible rfl))) | (refine Reg.tkB 2 (Reg.get rfl) hHeld ?_)
          try simp only [Act.put, List.setIfInBounds_toArray, List.set_cons_zero, List.set_cons_succ]
          first | (refine Reg.tkC 3 ?_ (Reg.get rfl) ?_ hHeld ?_; rotate_left 1; (focus (intro wq hSw; (try dsimp only at hSw); obtain ⟨s_bg, s_bp⟩ := hSw; have L_bg := Lay.c3 s_bg; have L_bp := Lay.c1 s_bp;  go_simp <;> with_reducible rfl))) | (refine Reg.tkB 3 (Reg.get rfl) hHeld ?_)
          try simp only [Act.put, List.setIfInBounds_toArray, List.set_cons_zero, List.set_cons_succ]
          first | (refine Reg.tkC 4 ?_ (Reg.get rfl) ?_ hHeld ?_; rotate_left 1; (focus (intro wq hSw; (try dsimp only at hSw); obtain ⟨s_bg, s_bp⟩ := hSw; have L_bg := Lay.c3 s_bg; have L_bp := Lay.c1 s_bp;  go_simp <;> with_reducible rfl))) | (refine Reg.tkB 4 (Reg.get rfl) hHeld ?_)
          try simp only [Act.put, List.setIfInBounds_toArray, List.set_cons_zero, List.set_cons_succ]
          first | (refine Reg.tkC 5 ?_ (Reg.get rfl) ?_ hHeld ?_; rotate_left 1; (focus (intro wq hSw; (try dsimp only at hSw); obtain ⟨s_bg, s_bp⟩ := hSw; have L_bg := Lay.c3 s_bg; have L_bp := Lay.c1 s_bp;  go_simp <;> with_reducible rfl))) | (refine Reg.tkB 5 (Reg.get rfl) hHeld ?_)
          try simp only [Act.put, List.setIfInBounds_toArray, List.set_cons_zero, List.set_cons_succ]
          first | (refine Reg.tkC 6 ?_ (Reg.get rfl) ?_ hHeld ?_; rotate_left 1; (focus (intro wq hSw; (try dsimp only at hSw); obtain ⟨s_bg, s_bp⟩ := hSw; have L_bg := Lay.c3 s_bg; have L_bp := Lay.c1 s_bp;  go_simp <;> with_reducible rfl))) | (refine Reg.tkB 6 (Reg.get rfl) hHeld ?_)
          try simp only [Act.put, List.setIfInBounds_toArray, List.set_cons_zero, List.set_cons_succ]
          first | (refine Reg.tkC 7 ?_ (Reg.get rfl) ?_ hHeld ?_; rotate_left 1; (focus (intro wq hSw; (try dsimp only at hSw); obtain ⟨s_bg, s_bp⟩ := hSw; have L_bg := Lay.c3 s_bg; have L_bp := Lay.c1 s_bp;  go_simp <;> with_reducible rfl))) | (refine Reg.tkB 7 (Reg.get rfl) hHeld ?_)
          try simp only [Act.put, List.setIfInBounds_toArray, List.set_cons_zero, List.set_cons_succ]
          first | (refine Reg.tkC 8 ?_ (Reg.get rfl) ?_ hHeld ?_; rotate_left 1; (focus (intro wq hSw; (try dsimp only at hSw); obtain ⟨s_bg, s_bp⟩ := hSw; have L_bg := Lay.c3 s_bg; have L_bp := Lay.c1 s_bp;  go_simp <;> with_reducible rfl))) | (refine Reg.tkB 8 (Reg.get rfl) hHeld ?_)
          try simp only [Act.put, List.setIfInBounds_toArray, List.set_cons_zero, List.set_cons_succ]
          first | (refine Reg.tkC 9 ?_ (Reg.get rfl) ?_ hHeld ?_; rotate_left 1; (focus (intro wq hSw; (try dsimp only at hSw); obtain ⟨s_bg, s_bp⟩ := hSw; have L_bg := Lay.c3 s_bg; have L_bp := Lay.c1 s_bp;  go_simp <;> with_reducible rfl))) | (refine Reg.tkB 9 (Reg.get rfl) hHeld ?_)
          try simp only [Act.put, List.setIfInBounds_toArray, List.set_cons_zero, List.set_cons_succ]
          first | (refine Reg.tkC 10 ?_ (Reg.get rfl) ?_ hHeld ?_; rotate_left 1; (focus (intro wq hSw; (try dsimp only at hSw); obtain ⟨s_bg, s_bp⟩ := hSw; have L_bg := Lay.c3 s_bg; have L_bp := Lay.c1 s_bp;  go_simp <;> with_reducible rfl))) | (refine Reg.tkB 10 (Reg.get rfl) hHeld ?_)
          try simp only [Act.put, List.setIfInBounds_toArray, List.set_cons_zero, List.set_cons_succ]
          first | (refine Reg.tkC 11 ?_ (Reg.get rfl) ?_ hHeld ?_; rotate_left 1; (focus (intro wq hSw; (try dsimp only at hSw); obtain ⟨s_bg, s_bp⟩ := hSw; have L_bg := Lay.c3 s_bg; have L_bp := Lay.c1 s_bp;  go_simp <;> with_reducible rfl))) | (refine Reg.tkB 11 (Reg.get rfl) hHeld ?_)
          try simp only [Act.put, List.setIfInBounds_toArray, List.set_cons_zero, List.set_cons_succ]
          first | (refine Reg.tkC 12 ?_ (Reg.get rfl) ?_ hHeld ?_; rotate_left 1; (focus (intro wq hSw; (try dsimp only at hSw); obtain ⟨s_bg, s_bp⟩ := hSw; have L_bg := Lay.c3 s_bg; have L_bp := Lay.c1 s_bp;  go_simp <;> with_reducible rfl))) | (refine Reg.tkB 12 (Reg.get rfl) hHeld ?_)
          try simp only [Act.put, List.setIfInBounds_toArray, List.set_cons_zero, List.set_cons_succ]
          first | (refine Reg.tkC 13 ?_ (Reg.get rfl) ?_ hHeld ?_; rotate_left 1; (focus (intro wq hSw; (try dsimp only at hSw); obtain ⟨s_bg, s_bp⟩ := hSw; have L_bg := Lay.c3 s_bg; have L_bp := Lay.c1 s_bp;  go_simp <;> with_reducible rfl))) | (refine Reg.tkB 13 (Reg.get rfl) hHeld ?_)
          try simp only [Act.put, List.setIfInBounds_toArray, List.set_cons_zero, List.set_cons_succ]
          refine wpAnyH_ready (rs := [14, 16]) (by kernel_rfl) (by simp) ?_
          refine (AllReadyH.cons (Reg.get rfl) (fun K hK => ?_) (AllReadyH.cons (Reg.get rfl) (fun K hK => ?_) AllReadyH.nil))
          
          · skip
            clear hHeld; go_simp; ((go_at_call 48; refine (tim_impl A2 m c2 ks _ (by first | exact HP.out.below B | exact HP.out.below B.drew)).mono ?_; rintro x w5 ⟨rfl, hb0⟩; rw [HTI.out]; (try (first | replace PBB := blk_underM PBB hb0 | replace PBB := blk_underM (blk_drewM PBB) hb0)); (first | replace bg := blk_underM bg hb0 | replace bg := blk_underM (blk_drewM bg) hb0); (first | replace bp := blk_underM bp hb0 | replace bp := blk_underM (blk_drewM bp) hb0); (first | replace r0 := blk_underM r0 hb0 | replace r0 := blk_underM (blk_drewM r0) hb0); (first | replace B := Below.trans B (hb0.mono (by first | omega | (simp; done) | (simp; omega))) | replace B := Below.trans B.drew (hb0.mono (by first | omega | (simp; done) | (simp; omega)))); have z5 := hb0.size; (try simp only [World.size_drew] at z5); clear hb0; (try clear L_bg L_bp); have L_bg := Lay.f3 bg; have L_bp := Lay.f1 bp)); refine hK.out _ _ ?_ (fun hHeld => ?_); ((try dsimp only); (refine ⟨?_, ?_⟩ <;> exact Bk.sv)); clear hK K
            try simp only [Act.put, List.setIfInBounds_toArray, List.set_cons_zero, List.set_cons_succ]
            first | (refine Reg.tkC 15 ?_ (Reg.get rfl) ?_ hHeld ?_; rotate_left 1; (focus (intro wq hSw; (try dsimp only at hSw); obtain ⟨s_bg, s_bp⟩ := hSw; have L_bg := Lay.c3 s_bg; have L_bp := Lay.c1 s_bp;  go_simp <;> with_reducible rfl))) | (refine Reg.tkB 15 (Reg.get rfl) hHeld ?_)
            try simp only [Act.put, List.setIfInBounds_toArray, List.set_cons_zero, List.set_cons_succ]
            first | ((refine Reg.tkB 16 (Reg.get rfl) hHeld ?_)) | (refine wpAnyH_ready (rs := [16]) (by kernel_rfl) (by simp) ?_; refine AllReadyH.cons (Reg.get rfl) (fun K hK => ?_) AllReadyH.nil; clear hHeld; go_simp; ((generalize hW : World.alloc _ _ = w6; have PBB := blk_newM hW; (try simp only [World.size_drew] at PBB); (first | replace bg := blk_toM bg hW | replace bg := blk_toM (blk_drewM bg) hW); (first | replace bp := blk_toM bp hW | replace bp := blk_toM (blk_drewM bp) hW); (first | replace r0 := blk_toM r0 hW | replace r0 := blk_toM (blk_drewM r0) hW); replace B : Below w.heap.size w w6 := (by rw [← hW]; go_grown); have z6 := size_toA hW; (try simp only [World.size_drew] at z6); clear hW; (try clear L_bg L_bp); have L_bg := Lay.f3 bg; have L_bp := Lay.f1 bp)); refine hK.out _ _ ?_ (fun hHeld => ?_); ((try dsimp only); (refine ⟨?_, ?_⟩ <;> exact Bk.sv)); clear hK K)
            try simp only [Act.put, List.setIfInBounds_toArray, List.set_cons_zero, List.set_cons_succ]
            first | ((refine Reg.tkB 17 (Reg.get rfl) hHeld ?_)) | (refine wpAnyH_ready (rs := [17]) (by kernel_rfl) (by simp) ?_; refine AllReadyH.cons (Reg.get rfl) (fun K hK => ?_) AllReadyH.nil; clear hHeld; ((refine Sto.wp_store 43 (.tmp 11) (.tmp 40) (by rfl) _ 43 _ [.int .i64 fr, .int .i64 sl, .int .i64 dc, .int .i64 pe, .bool true, .int .i64 ti] (by rfl) (by rfl) (by first | exact PBB | exact PBB.drew) (by rfl) (by kernel_rfl) (by rfl) ?_; intro w7 hb0 hg0 hs0; have zP := PBB.lt; (first | replace bg := blk_grM hg0 (fun e => by injection e with e; omega) bg | replace bg := blk_grM hg0 (fun e => by injection e with e; omega) bg.drew); (first | replace bp := blk_grM hg0 (fun e => by injection e with e; omega) bp | replace bp := blk_grM hg0 (fun e => by injection e with e; omega) bp.drew); (first | replace r0 := blk_grM hg0 (fun e => by injection e with e; omega) r0 | replace r0 := blk_grM hg0 (fun e => by injection e with e; omega) r0.drew); (first | replace B := below_grM B hg0 (by omega) | replace B := below_grM B.drew hg0 (by omega)); replace PBB := hb0; clear hb0 hg0; (try clear L_bg L_bp); have L_bg := Lay.f3 bg; have L_bp := Lay.f1 bp)); refine hK.out _ _ ?_ (fun hHeld => ?_); ((try dsimp only); (refine ⟨?_, ?_⟩ <;> exact Bk.sv)); clear hK K)
            try simp only [Act.put, List.setIfInBounds_toArray, List.set_cons_zero, List.set_cons_succ]
            refine wpAnyH_done (by kernel_rfl) ?_ _
            (try clear L_bg L_bp)
            go_wp2_with fail
            go_meet
            exact ⟨_, rfl, by omega, (by rw [HG.out]; first | exact PBB | exact PBB.drew), (by first | exact bg | exact bg.drew), (by first | exact bp | exact bp.drew), (by first | exact r0 | exact r0.drew), (by first | exact B | exact B.drew)⟩
          
          · skip
            clear hHeld; go_simp; ((generalize hW : World.alloc _ _ = w6; have PBB := blk_newM hW; (try simp only [World.size_drew] at PBB); (first | replace bg := blk_toM bg hW | replace bg := blk_toM (blk_drewM bg) hW); (first | replace bp := blk_toM bp hW | replace bp := blk_toM (blk_drewM bp) hW); (first | replace r0 := blk_toM r0 hW | replace r0 := blk_toM (blk_drewM r0) hW); replace B : Below w.heap.size w w6 := (by rw [← hW]; go_grown); have z6 := size_toA hW; (try simp only [World.size_drew] at z6); clear hW; (try clear L_bg L_bp); have L_bg := Lay.f3 bg; have L_bp := Lay.f1 bp)); refine hK.out _ _ ?_ (fun hHeld => ?_); ((try dsimp only); (refine ⟨?_, ?_⟩ <;> exact Bk.sv)); clear hK K
            try simp only [Act.put, List.setIfInBounds_toArray, List.set_cons_zero, List.set_cons_succ]
            first | ((refine Reg.tkB 14 (Reg.get rfl) hHeld ?_)) | (refine wpAnyH_ready (rs := [14]) (by kernel_rfl) (by simp) ?_; refine AllReadyH.cons (Reg.get rfl) (fun K hK => ?_) AllReadyH.nil; clear hHeld; go_simp; ((go_at_call 48; refine (tim_impl A2 m c2 ks _ (by first | exact HP.out.below B | exact HP.out.below B.drew)).mono ?_; rintro x w5 ⟨rfl, hb0⟩; rw [HTI.out]; (try (first | replace PBB := blk_underM PBB hb0 | replace PBB := blk_underM (blk_drewM PBB) hb0)); (first | replace bg := blk_underM bg hb0 | replace bg := blk_underM (blk_drewM bg) hb0); (first | replace bp := blk_underM bp hb0 | replace bp := blk_underM (blk_drewM bp) hb0); (first | replace r0 := blk_underM r0 hb0 | replace r0 := blk_underM (blk_drewM r0) hb0); (first | replace B := Below.trans B (hb0.mono (by first | omega | (simp; done) | (simp; omega))) | replace B := Below.trans B.drew (hb0.mono (by first | omega | (simp; done) | (simp; omega)))); have z5 := hb0.size; (try simp only [World.size_drew] at z5); clear hb0; (try clear L_bg L_bp); have L_bg := Lay.f3 bg; have L_bp := Lay.f1 bp)); refine hK.out _ _ ?_ (fun hHeld => ?_); ((try dsimp only); (refine ⟨?_, ?_⟩ <;> exact Bk.sv)); clear hK K)
            try simp only [Act.put, List.setIfInBounds_toArray, List.set_cons_zero, List.set_cons_succ]
            first | (refine Reg.tkC 15 ?_ (Reg.get rfl) ?_ hHeld ?_; rotate_left 1; (focus (intro wq hSw; (try dsimp only at hSw); obtain ⟨s_bg, s_bp⟩ := hSw; have L_bg := Lay.c3 s_bg; have L_bp := Lay.c1 s_bp;  go_simp <;> with_reducible rfl))) | (refine Reg.tkB 15 (Reg.get rfl) hHeld ?_)
            try simp only [Act.put, List.setIfInBounds_toArray, List.set_cons_zero, List.set_cons_succ]
            first | ((refine Reg.tkB 17 (Reg.get rfl) hHeld ?_)) | (refine wpAnyH_ready (rs := [17]) (by kernel_rfl) (by simp) ?_; refine AllReadyH.cons (Reg.get rfl) (fun K hK => ?_) AllReadyH.nil; clear hHeld; ((refine Sto.wp_store 43 (.tmp 11) (.tmp 40) (by rfl) _ 43 _ [.int .i64 fr, .int .i64 sl, .int .i64 dc, .int .i64 pe, .bool true, .int .i64 ti] (by rfl) (by rfl) (by first | exact PBB | exact PBB.drew) (by rfl) (by kernel_rfl) (by rfl) ?_; intro w7 hb0 hg0 hs0; have zP := PBB.lt; (first | replace bg := blk_grM hg0 (fun e => by injection e with e; omega) bg | replace bg := blk_grM hg0 (fun e => by injection e with e; omega) bg.drew); (first | replace bp := blk_grM hg0 (fun e => by injection e with e; omega) bp | replace bp := blk_grM hg0 (fun e => by injection e with e; omega) bp.drew); (first | replace r0 := blk_grM hg0 (fun e => by injection e with e; omega) r0 | replace r0 := blk_grM hg0 (fun e => by injection e with e; omega) r0.drew); (first | replace B := below_grM B hg0 (by omega) | replace B := below_grM B.drew hg0 (by omega)); replace PBB := hb0; clear hb0 hg0; (try clear L_bg L_bp); have L_bg := Lay.f3 bg; have L_bp := Lay.f1 bp)); refine hK.out _ _ ?_ (fun hHeld => ?_); ((try dsimp only); (refine ⟨?_, ?_⟩ <;> exact Bk.sv)); clear hK K)
            try simp only [Act.put, List.setIfInBounds_toArray, List.set_cons_zero, List.set_cons_succ]
            refine wpAnyH_done (by kernel_rfl) ?_ _
            (try clear L_bg L_bp)
            go_wp2_with fail
            go_meet
            exact ⟨_, rfl, by omega, (by rw [HG.out]; first | exact PBB | exact PBB.drew), (by first | exact bg | exact bg.drew), (by first | exact bp | exact bp.drew), (by first | exact r0 | exact r0.drew), (by first | exact B | exact B.drew)⟩
      case rest =>
        obtain ⟨w20, hw20⟩ : ∃ W, W = wc := ⟨_, rfl⟩
        subst hw20
        clear bg bp r0 B
        obtain ⟨pb, rfl, hpb, b0, bg, bp, r0, B⟩ := hcut
        have z20 := B.size
        have zpb := b0.lt
        have L_r0 := Lay.f6 r0
        have L_b0 := Lay.f6 b0
        go_wp2_with fail
        clear L_r0 L_b0
        refine (validB_impl fr sl dc pe gt ti _).mono ?_
        rintro x w21 hsay
        obtain ⟨rfl, hb0⟩ := saysB hsay vb HVB.out
        clear hsay
        replace bg : Bk.Blk w21 (w.heap.size) 27 #[.int .i64 pe, .slice A n c, .int .i64 lo] := Bk.Blk.under hb0 (by exact Bk.sv)
        replace bp : Bk.Blk w21 (w.heap.size + 1) 39 #[.slice A2 m c2] := Bk.Blk.under hb0 (by exact Bk.sv)
        replace r0 : Bk.Blk w21 (w.heap.size + 1 + 1) 43 #[.int .i64 0, .int .i64 0, .int .i64 0, .int .i64 0, .bool false, .int .i64 0] := Bk.Blk.under hb0 (by exact Bk.sv)
        replace b0 : Bk.Blk w21 (pb) 43 #[.int .i64 fr, .int .i64 sl, .int .i64 dc, .int .i64 pe, .bool gt, .int .i64 ti] := Bk.Blk.under hb0 (by exact Bk.sv)
        replace B : Below w.heap.size w w21 := Below.trans (by go_grown) (hb0.mono (by first | omega | (simp [Bk.size_set]; done) | (simp [Bk.size_set]; omega)))
        have z21 := hb0.size
        (try simp only [World.size_alloc, Bk.size_set, World.size_drew, World.drewN] at z21)
        clear hb0
        cases vb
        · skip
          have L_r0 := Lay.f6 r0
          have L_b0 := Lay.f6 b0
          go_wp2_with fail
          clear L_r0 L_b0
          generalize hW : World.setCell _ _ _ = w22
          replace r0 : Bk.Blk w22 (w.heap.size + 1 + 1) 43 #[.int .i64 0, .int .i64 0, .int .i64 0, .int .i64 0, .bool false, .int .i64 0] := (by rw [← hW]; apply Bk.Blk.to; (focus (exact Bk.sv)); rfl)
          replace B : Below w.heap.size w w22 := (by rw [← hW]; go_grown)
          have z22 : w22.heap.size = _ := congrArg (fun W : World => W.heap.size) hW.symm
          (try simp only [World.size_alloc, Bk.size_set, World.size_drew, World.drewN] at z22)
          clear hW
          have L_r0 := Lay.c6 r0
          go_wp2
          refine bodyPost_ret (v := .tuple #[.agg #[.int .i64 0, .int .i64 0, .int .i64 0, .int .i64 0, .bool false, .int .i64 0], .bool false]) (by simp [results, Try.results21, go_sem, L_r0]) rfl (⟨rfl, (by first | exact B | exact B.drew)⟩)
        · skip
          have L_r0 := Lay.f6 r0
          have L_b0 := Lay.f6 b0
          go_wp2_with fail
          clear L_r0 L_b0
          generalize hW : World.setCell _ _ _ = w22
          replace r0 : Bk.Blk w22 (w.heap.size + 1 + 1) 43 #[.int .i64 fr, .int .i64 sl, .int .i64 dc, .int .i64 pe, .bool gt, .int .i64 ti] := (by rw [← hW]; apply Bk.Blk.to; (focus (exact Bk.sv)); rfl)
          replace B : Below w.heap.size w w22 := (by rw [← hW]; go_grown)
          have z22 : w22.heap.size = _ := congrArg (fun W : World => W.heap.size) hW.symm
          (try simp only [World.size_alloc, Bk.size_set, World.size_drew, World.drewN] at z22)
          clear hW
          have L_r0 := Lay.c6 r0
          go_wp2
          refine bodyPost_ret (v := .tuple #[.agg #[.int .i64 fr, .int .i64 sl, .int .i64 dc, .int .i64 pe, .bool gt, .int .i64 ti], .bool true]) (by simp [results, Try.results21, go_sem, L_r0]) rfl (⟨rfl, (by first | exact B | exact B.drew)⟩)

set_option maxRecDepth 100000 in
set_option maxHeartbeats 16000000 in
theorem mk_spec (pe lo : Int) (A : Option Addr) (n c : Nat) (xss : List (List Int)) (A2 : Option Addr) (m c2 : Nat) (ks : List Kt) (fr sl : Int) (dc ti : Int) (gt vg vp vb : Bool) (w : World)
    (hdc : Bcn.dcount sl pe = dc) (hti : timK ks m = ti) (hgt : gtB dc n = gt) (hvg : vg = true ↔ validG pe lo xss n) (hvp : vp = true ↔ validP ks m) (hvb : vb = true ↔ validB fr sl dc pe gt ti)
    (hr : RdSS w A n c xss) (hp : RdPB w A2 m c2 ks) (hs : -9223372036854775808 ≤ sl ∧ sl ≤ 9223372036854775807) :
    Calls Try.prog 22 #[.agg #[.int .i64 pe, .slice A n c, .int .i64 lo], .agg #[.slice A2 m c2], .int .i64 fr, .int .i64 sl] w fun x w' => x = .returned (.tuple #[mkV fr sl dc pe gt ti (vg && vp && vb), .bool (vg && vp && vb)]) ∧ Below w.heap.size w w' := by
  have HR := Lib.hid hr
  have HP := Lib.hid hp
  have HDC := Lib.hid hdc
  have HTI := Lib.hid hti
  have HVG := Lib.hid hvg
  have HVP := Lib.hid hvp
  have HVB := Lib.hid hvb
  have hgc := gt_cases dc n
  rw [hgt] at hgc
  have HGC := Lib.hid hgc
  have hn := ss64 hr
  have HS := Lib.hid hs
  have B : Below w.heap.size w w := Below.refl _ _
  clear hr hp hdc hti hgt hvg hvp hvb hgc
  go_enter Try.func22, Try.ntmps22
  go_wp2_with fail
  generalize hW : World.alloc _ _ = w1
  have bg : Bk.Blk w1 (w.heap.size) 27 #[.int .i64 pe, .slice A n c, .int .i64 lo] := (by rw [← hW]; apply Bk.Blk.to; (focus (exact Bk.sv)); rfl)
  have bp : Bk.Blk w1 (w.heap.size + 1) 39 #[.slice A2 m c2] := (by rw [← hW]; apply Bk.Blk.to; (focus (exact Bk.sv)); rfl)
  have r0 : Bk.Blk w1 (w.heap.size + 1 + 1) 43 #[.int .i64 0, .int .i64 0, .int .i64 0, .int .i64 0, .bool false, .int .i64 0] := (by rw [← hW]; apply Bk.Blk.to; (focus (exact Bk.sv)); rfl)
  replace B : Below w.heap.size w w1 := (by rw [← hW]; go_grown)
  have z1 : w1.heap.size = _ := congrArg (fun W : World => W.heap.size) hW.symm
  (try simp only [World.size_alloc, Bk.size_set, World.size_drew, World.drewN] at z1)
  clear hW
  have zz1 := Nat.le_of_eq z1.symm
  clear z1
  go_upto_region 1 with fail
  go_cut [10] (fun v wx => ∃ pb : Nat, v = .pointer (some ⟨pb, 0, none⟩) ∧ w.heap.size + 1 + 1 < pb ∧ Bk.Blk wx pb 43 #[.int .i64 fr, .int .i64 sl, .int .i64 dc, .int .i64 pe, .bool false, .int .i64 ti] ∧ Bk.Blk wx w.heap.size 27 #[.int .i64 pe, .slice A n c, .int .i64 lo] ∧ Bk.Blk wx (w.heap.size + 1) 39 #[.slice A2 m c2] ∧ Bk.Blk wx (w.heap.size + 1 + 1) 43 #[.int .i64 0, .int .i64 0, .int .i64 0, .int .i64 0, .bool false, .int .i64 0] ∧ Below w.heap.size w wx)
  case first =>
    · skip
      have L_bg := Lay.f3 bg
      have L_bp := Lay.f1 bp
      refine wp_region_held_drew (S := (fun w' => Bk.Blk w' (w.heap.size) 27 #[.int .i64 pe, .slice A n c, .int .i64 lo] ∧ Bk.Blk w' (w.heap.size + 1) 39 #[.slice A2 m c2])) (by kernel_rfl) ?_ (fun hHeld => ?_)
      · (try dsimp only); (refine ⟨?_, ?_⟩ <;> exact Bk.sv)
      first | (refine Reg.tkC 0 ?_ (Reg.get rfl) ?_ hHeld ?_; rotate_left 1; (focus (intro wq hSw; (try dsimp only at hSw); obtain ⟨s_bg, s_bp⟩ := hSw; have L_bg := Lay.c3 s_bg; have L_bp := Lay.c1 s_bp;  go_simp <;> with_reducible rfl))) | (refine Reg.tkB 0 (Reg.get rfl) hHeld ?_)
      try simp only [Act.put, List.setIfInBounds_toArray, List.set_cons_zero, List.set_cons_succ]
      first | (refine Reg.tkC 1 ?_ (Reg.get rfl) ?_ hHeld ?_; rotate_left 1; (focus (intro wq hSw; (try dsimp only at hSw); obtain ⟨s_bg, s_bp⟩ := hSw; have L_bg := Lay.c3 s_bg; have L_bp := Lay.c1 s_bp;  go_simp <;> with_reducible rfl))) | (refine Reg.tkB 1 (Reg.get rfl) hHeld ?_)
      try simp only [Act.put, List.setIfInBounds_toArray, List.set_cons_zero, List.set_cons_succ]
      first | (refine Reg.tkC 2 ?_ (Reg.get rfl) ?_ hHeld ?_; rotate_left 1; (focus (intro wq hSw; (try dsimp only at hSw); obtain ⟨s_bg, s_bp⟩ := hSw; have L_bg := Lay.c3 s_bg; have L_bp := Lay.c1 s_bp;  go_simp <;> with_reducible rfl))) | (refine Reg.tkB 2 (Reg.get rfl) hHeld ?_)
      try simp only [Act.put, List.setIfInBounds_toArray, List.set_cons_zero, List.set_cons_succ]
      first | (refine Reg.tkC 3 ?_ (Reg.get rfl) ?_ hHeld ?_; rotate_left 1; (focus (intro wq hSw; (try dsimp only at hSw); obtain ⟨s_bg, s_bp⟩ := hSw; have L_bg := Lay.c3 s_bg; have L_bp := Lay.c1 s_bp;  go_simp <;> with_reducible rfl))) | (refine Reg.tkB 3 (Reg.get rfl) hHeld ?_)
      try simp only [Act.put, List.setIfInBounds_toArray, List.set_cons_zero, List.set_cons_succ]
      first | (refine Reg.tkC 4 ?_ (Reg.get rfl) ?_ hHeld ?_; rotate_left 1; (focus (intro wq hSw; (try dsimp only at hSw); obtain ⟨s_bg, s_bp⟩ := hSw; have L_bg := Lay.c3 s_bg; have L_bp := Lay.c1 s_bp;  go_simp <;> with_reducible rfl))) | (refine Reg.tkB 4 (Reg.get rfl) hHeld ?_)
      try simp only [Act.put, List.setIfInBounds_toArray, List.set_cons_zero, List.set_cons_succ]
      first | (refine Reg.tkC 6 ?_ (Reg.get rfl) ?_ hHeld ?_; rotate_left 1; (focus (intro wq hSw; (try dsimp only at hSw); obtain ⟨s_bg, s_bp⟩ := hSw; have L_bg := Lay.c3 s_bg; have L_bp := Lay.c1 s_bp;  go_simp <;> with_reducible rfl))) | (refine Reg.tkB 6 (Reg.get rfl) hHeld ?_)
      try simp only [Act.put, List.setIfInBounds_toArray, List.set_cons_zero, List.set_cons_succ]
      first | (refine Reg.tkC 7 ?_ (Reg.get rfl) ?_ hHeld ?_; rotate_left 1; (focus (intro wq hSw; (try dsimp only at hSw); obtain ⟨s_bg, s_bp⟩ := hSw; have L_bg := Lay.c3 s_bg; have L_bp := Lay.c1 s_bp;  go_simp <;> with_reducible rfl))) | (refine Reg.tkB 7 (Reg.get rfl) hHeld ?_)
      try simp only [Act.put, List.setIfInBounds_toArray, List.set_cons_zero, List.set_cons_succ]
      first | (refine Reg.tkC 8 ?_ (Reg.get rfl) ?_ hHeld ?_; rotate_left 1; (focus (intro wq hSw; (try dsimp only at hSw); obtain ⟨s_bg, s_bp⟩ := hSw; have L_bg := Lay.c3 s_bg; have L_bp := Lay.c1 s_bp;  go_simp <;> with_reducible rfl))) | (refine Reg.tkB 8 (Reg.get rfl) hHeld ?_)
      try simp only [Act.put, List.setIfInBounds_toArray, List.set_cons_zero, List.set_cons_succ]
      refine wpAnyH_ready (rs := [5, 11]) (by kernel_rfl) (by simp) ?_
      refine (AllReadyH.cons (Reg.get rfl) (fun K hK => ?_) (AllReadyH.cons (Reg.get rfl) (fun K hK => ?_) AllReadyH.nil))
      
      · skip
        clear hHeld; go_simp; ((go_at_call 27; refine (dtim_spec sl pe _ HS.out).mono ?_; rintro e w' ⟨rfl, rfl⟩; rw [HDC.out])); refine hK.out _ _ ?_ (fun hHeld => ?_); ((try dsimp only); (refine ⟨?_, ?_⟩ <;> exact Bk.sv)); clear hK K
        try simp only [Act.put, List.setIfInBounds_toArray, List.set_cons_zero, List.set_cons_succ]
        refine wpAnyH_ready (rs := [9, 11]) (by kernel_rfl) (by simp) ?_
        refine (AllReadyH.cons (Reg.get rfl) (fun K hK => ?_) (AllReadyH.cons (Reg.get rfl) (fun K hK => ?_) AllReadyH.nil))
      
        · skip
          clear hHeld; go_simp; ((go_at_call 29; refine (tim_spec A2 m c2 ks _ (by first | exact HP.out.below B | exact HP.out.below B.drew)).mono ?_; rintro x w5 ⟨rfl, hb0⟩; rw [HTI.out]; (try (first | replace PBB := blk_underM PBB hb0 | replace PBB := blk_underM (blk_drewM PBB) hb0)); (first | replace bg := blk_underM bg hb0 | replace bg := blk_underM (blk_drewM bg) hb0); (first | replace bp := blk_underM bp hb0 | replace bp := blk_underM (blk_drewM bp) hb0); (first | replace r0 := blk_underM r0 hb0 | replace r0 := blk_underM (blk_drewM r0) hb0); (first | replace B := Below.trans B (hb0.mono (by first | omega | (simp; done) | (simp; omega))) | replace B := Below.trans B.drew (hb0.mono (by first | omega | (simp; done) | (simp; omega)))); have z5 := hb0.size; (try simp only [World.size_drew] at z5); clear hb0; (try clear L_bg L_bp); have L_bg := Lay.f3 bg; have L_bp := Lay.f1 bp)); refine hK.out _ _ ?_ (fun hHeld => ?_); ((try dsimp only); (refine ⟨?_, ?_⟩ <;> exact Bk.sv)); clear hK K
          try simp only [Act.put, List.setIfInBounds_toArray, List.set_cons_zero, List.set_cons_succ]
          first | (refine Reg.tkC 10 ?_ (Reg.get rfl) ?_ hHeld ?_; rotate_left 1; (focus (intro wq hSw; (try dsimp only at hSw); obtain ⟨s_bg, s_bp⟩ := hSw; have L_bg := Lay.c3 s_bg; have L_bp := Lay.c1 s_bp;  go_simp <;> with_reducible rfl))) | (refine Reg.tkB 10 (Reg.get rfl) hHeld ?_)
          try simp only [Act.put, List.setIfInBounds_toArray, List.set_cons_zero, List.set_cons_succ]
          first | ((refine Reg.tkB 11 (Reg.get rfl) hHeld ?_)) | (refine wpAnyH_ready (rs := [11]) (by kernel_rfl) (by simp) ?_; refine AllReadyH.cons (Reg.get rfl) (fun K hK => ?_) AllReadyH.nil; clear hHeld; go_simp; ((generalize hW : World.alloc _ _ = w6; have PBB := blk_newM hW; (try simp only [World.size_drew] at PBB); (first | replace bg := blk_toM bg hW | replace bg := blk_toM (blk_drewM bg) hW); (first | replace bp := blk_toM bp hW | replace bp := blk_toM (blk_drewM bp) hW); (first | replace r0 := blk_toM r0 hW | replace r0 := blk_toM (blk_drewM r0) hW); replace B : Below w.heap.size w w6 := (by rw [← hW]; go_grown); have z6 := size_toA hW; (try simp only [World.size_drew] at z6); clear hW; (try clear L_bg L_bp); have L_bg := Lay.f3 bg; have L_bp := Lay.f1 bp)); refine hK.out _ _ ?_ (fun hHeld => ?_); ((try dsimp only); (refine ⟨?_, ?_⟩ <;> exact Bk.sv)); clear hK K)
          try simp only [Act.put, List.setIfInBounds_toArray, List.set_cons_zero, List.set_cons_succ]
          first | ((refine Reg.tkB 12 (Reg.get rfl) hHeld ?_)) | (refine wpAnyH_ready (rs := [12]) (by kernel_rfl) (by simp) ?_; refine AllReadyH.cons (Reg.get rfl) (fun K hK => ?_) AllReadyH.nil; clear hHeld; ((refine Sto.wp_store 43 (.tmp 10) (.tmp 21) (by rfl) _ 43 _ [.int .i64 fr, .int .i64 sl, .int .i64 dc, .int .i64 pe, .bool false, .int .i64 ti] (by rfl) (by rfl) (by first | exact PBB | exact PBB.drew) (by rfl) (by kernel_rfl) (by rfl) ?_; intro w7 hb0 hg0 hs0; have zP := PBB.lt; (first | replace bg := blk_grM hg0 (fun e => by injection e with e; omega) bg | replace bg := blk_grM hg0 (fun e => by injection e with e; omega) bg.drew); (first | replace bp := blk_grM hg0 (fun e => by injection e with e; omega) bp | replace bp := blk_grM hg0 (fun e => by injection e with e; omega) bp.drew); (first | replace r0 := blk_grM hg0 (fun e => by injection e with e; omega) r0 | replace r0 := blk_grM hg0 (fun e => by injection e with e; omega) r0.drew); (first | replace B := below_grM B hg0 (by omega) | replace B := below_grM B.drew hg0 (by omega)); replace PBB := hb0; clear hb0 hg0; (try clear L_bg L_bp); have L_bg := Lay.f3 bg; have L_bp := Lay.f1 bp)); refine hK.out _ _ ?_ (fun hHeld => ?_); ((try dsimp only); (refine ⟨?_, ?_⟩ <;> exact Bk.sv)); clear hK K)
          try simp only [Act.put, List.setIfInBounds_toArray, List.set_cons_zero, List.set_cons_succ]
          refine wpAnyH_done (by kernel_rfl) ?_ _
          (try clear L_bg L_bp)
          go_wp2_with fail
          go_meet
          exact ⟨_, rfl, by omega, (by first | exact PBB | exact PBB.drew), (by first | exact bg | exact bg.drew), (by first | exact bp | exact bp.drew), (by first | exact r0 | exact r0.drew), (by first | exact B | exact B.drew)⟩
      
        · skip
          clear hHeld; go_simp; ((generalize hW : World.alloc _ _ = w6; have PBB := blk_newM hW; (try simp only [World.size_drew] at PBB); (first | replace bg := blk_toM bg hW | replace bg := blk_toM (blk_drewM bg) hW); (first | replace bp := blk_toM bp hW | replace bp := blk_toM (blk_drewM bp) hW); (first | replace r0 := blk_toM r0 hW | replace r0 := blk_toM (blk_drewM r0) hW); replace B : Below w.heap.size w w6 := (by rw [← hW]; go_grown); have z6 := size_toA hW; (try simp only [World.size_drew] at z6); clear hW; (try clear L_bg L_bp); have L_bg := Lay.f3 bg; have L_bp := Lay.f1 bp)); refine hK.out _ _ ?_ (fun hHeld => ?_); ((try dsimp only); (refine ⟨?_, ?_⟩ <;> exact Bk.sv)); clear hK K
          try simp only [Act.put, List.setIfInBounds_toArray, List.set_cons_zero, List.set_cons_succ]
          first | ((refine Reg.tkB 9 (Reg.get rfl) hHeld ?_)) | (refine wpAnyH_ready (rs := [9]) (by kernel_rfl) (by simp) ?_; refine AllReadyH.cons (Reg.get rfl) (fun K hK => ?_) AllReadyH.nil; clear hHeld; go_simp; ((go_at_call 29; refine (tim_spec A2 m c2 ks _ (by first | exact HP.out.below B | exact HP.out.below B.drew)).mono ?_; rintro x w5 ⟨rfl, hb0⟩; rw [HTI.out]; (try (first | replace PBB := blk_underM PBB hb0 | replace PBB := blk_underM (blk_drewM PBB) hb0)); (first | replace bg := blk_underM bg hb0 | replace bg := blk_underM (blk_drewM bg) hb0); (first | replace bp := blk_underM bp hb0 | replace bp := blk_underM (blk_drewM bp) hb0); (first | replace r0 := blk_underM r0 hb0 | replace r0 := blk_underM (blk_drewM r0) hb0); (first | replace B := Below.trans B (hb0.mono (by first | omega | (simp; done) | (simp; omega))) | replace B := Below.trans B.drew (hb0.mono (by first | omega | (simp; done) | (simp; omega)))); have z5 := hb0.size; (try simp only [World.size_drew] at z5); clear hb0; (try clear L_bg L_bp); have L_bg := Lay.f3 bg; have L_bp := Lay.f1 bp)); refine hK.out _ _ ?_ (fun hHeld => ?_); ((try dsimp only); (refine ⟨?_, ?_⟩ <;> exact Bk.sv)); clear hK K)
          try simp only [Act.put, List.setIfInBounds_toArray, List.set_cons_zero, List.set_cons_succ]
          first | (refine Reg.tkC 10 ?_ (Reg.get rfl) ?_ hHeld ?_; rotate_left 1; (focus (intro wq hSw; (try dsimp only at hSw); obtain ⟨s_bg, s_bp⟩ := hSw; have L_bg := Lay.c3 s_bg; have L_bp := Lay.c1 s_bp;  go_simp <;> with_reducible rfl))) | (refine Reg.tkB 10 (Reg.get rfl) hHeld ?_)
          try simp only [Act.put, List.setIfInBounds_toArray, List.set_cons_zero, List.set_cons_succ]
          first | ((refine Reg.tkB 12 (Reg.get rfl) hHeld ?_)) | (refine wpAnyH_ready (rs := [12]) (by kernel_rfl) (by simp) ?_; refine AllReadyH.cons (Reg.get rfl) (fun K hK => ?_) AllReadyH.nil; clear hHeld; ((refine Sto.wp_store 43 (.tmp 10) (.tmp 21) (by rfl) _ 43 _ [.int .i64 fr, .int .i64 sl, .int .i64 dc, .int .i64 pe, .bool false, .int .i64 ti] (by rfl) (by rfl) (by first | exact PBB | exact PBB.drew) (by rfl) (by kernel_rfl) (by rfl) ?_; intro w7 hb0 hg0 hs0; have zP := PBB.lt; (first | replace bg := blk_grM hg0 (fun e => by injection e with e; omega) bg | replace bg := blk_grM hg0 (fun e => by injection e with e; omega) bg.drew); (first | replace bp := blk_grM hg0 (fun e => by injection e with e; omega) bp | replace bp := blk_grM hg0 (fun e => by injection e with e; omega) bp.drew); (first | replace r0 := blk_grM hg0 (fun e => by injection e with e; omega) r0 | replace r0 := blk_grM hg0 (fun e => by injection e with e; omega) r0.drew); (first | replace B := below_grM B hg0 (by omega) | replace B := below_grM B.drew hg0 (by omega)); replace PBB := hb0; clear hb0 hg0; (try clear L_bg L_bp); have L_bg := Lay.f3 bg; have L_bp := Lay.f1 bp)); refine hK.out _ _ ?_ (fun hHeld => ?_); ((try dsimp only); (refine ⟨?_, ?_⟩ <;> exact Bk.sv)); clear hK K)
          try simp only [Act.put, List.setIfInBounds_toArray, List.set_cons_zero, List.set_cons_succ]
          refine wpAnyH_done (by kernel_rfl) ?_ _
          (try clear L_bg L_bp)
          go_wp2_with fail
          go_meet
          exact ⟨_, rfl, by omega, (by first | exact PBB | exact PBB.drew), (by first | exact bg | exact bg.drew), (by first | exact bp | exact bp.drew), (by first | exact r0 | exact r0.drew), (by first | exact B | exact B.drew)⟩
      
      · skip
        clear hHeld; go_simp; ((generalize hW : World.alloc _ _ = w6; have PBB := blk_newM hW; (try simp only [World.size_drew] at PBB); (first | replace bg := blk_toM bg hW | replace bg := blk_toM (blk_drewM bg) hW); (first | replace bp := blk_toM bp hW | replace bp := blk_toM (blk_drewM bp) hW); (first | replace r0 := blk_toM r0 hW | replace r0 := blk_toM (blk_drewM r0) hW); replace B : Below w.heap.size w w6 := (by rw [← hW]; go_grown); have z6 := size_toA hW; (try simp only [World.size_drew] at z6); clear hW; (try clear L_bg L_bp); have L_bg := Lay.f3 bg; have L_bp := Lay.f1 bp)); refine hK.out _ _ ?_ (fun hHeld => ?_); ((try dsimp only); (refine ⟨?_, ?_⟩ <;> exact Bk.sv)); clear hK K
        try simp only [Act.put, List.setIfInBounds_toArray, List.set_cons_zero, List.set_cons_succ]
        first | ((refine Reg.tkB 5 (Reg.get rfl) hHeld ?_)) | (refine wpAnyH_ready (rs := [5]) (by kernel_rfl) (by simp) ?_; refine AllReadyH.cons (Reg.get rfl) (fun K hK => ?_) AllReadyH.nil; clear hHeld; go_simp; ((go_at_call 27; refine (dtim_spec sl pe _ HS.out).mono ?_; rintro e w' ⟨rfl, rfl⟩; rw [HDC.out])); refine hK.out _ _ ?_ (fun hHeld => ?_); ((try dsimp only); (refine ⟨?_, ?_⟩ <;> exact Bk.sv)); clear hK K)
        try simp only [Act.put, List.setIfInBounds_toArray, List.set_cons_zero, List.set_cons_succ]
        first | ((refine Reg.tkB 9 (Reg.get rfl) hHeld ?_)) | (refine wpAnyH_ready (rs := [9]) (by kernel_rfl) (by simp) ?_; refine AllReadyH.cons (Reg.get rfl) (fun K hK => ?_) AllReadyH.nil; clear hHeld; go_simp; ((go_at_call 29; refine (tim_spec A2 m c2 ks _ (by first | exact HP.out.below B | exact HP.out.below B.drew)).mono ?_; rintro x w5 ⟨rfl, hb0⟩; rw [HTI.out]; (try (first | replace PBB := blk_underM PBB hb0 | replace PBB := blk_underM (blk_drewM PBB) hb0)); (first | replace bg := blk_underM bg hb0 | replace bg := blk_underM (blk_drewM bg) hb0); (first | replace bp := blk_underM bp hb0 | replace bp := blk_underM (blk_drewM bp) hb0); (first | replace r0 := blk_underM r0 hb0 | replace r0 := blk_underM (blk_drewM r0) hb0); (first | replace B := Below.trans B (hb0.mono (by first | omega | (simp; done) | (simp; omega))) | replace B := Below.trans B.drew (hb0.mono (by first | omega | (simp; done) | (simp; omega)))); have z5 := hb0.size; (try simp only [World.size_drew] at z5); clear hb0; (try clear L_bg L_bp); have L_bg := Lay.f3 bg; have L_bp := Lay.f1 bp)); refine hK.out _ _ ?_ (fun hHeld => ?_); ((try dsimp only); (refine ⟨?_, ?_⟩ <;> exact Bk.sv)); clear hK K)
        try simp only [Act.put, List.setIfInBounds_toArray, List.set_cons_zero, List.set_cons_succ]
        first | (refine Reg.tkC 10 ?_ (Reg.get rfl) ?_ hHeld ?_; rotate_left 1; (focus (intro wq hSw; (try dsimp only at hSw); obtain ⟨s_bg, s_bp⟩ := hSw; have L_bg := Lay.c3 s_bg; have L_bp := Lay.c1 s_bp;  go_simp <;> with_reducible rfl))) | (refine Reg.tkB 10 (Reg.get rfl) hHeld ?_)
        try simp only [Act.put, List.setIfInBounds_toArray, List.set_cons_zero, List.set_cons_succ]
        first | ((refine Reg.tkB 12 (Reg.get rfl) hHeld ?_)) | (refine wpAnyH_ready (rs := [12]) (by kernel_rfl) (by simp) ?_; refine AllReadyH.cons (Reg.get rfl) (fun K hK => ?_) AllReadyH.nil; clear hHeld; ((refine Sto.wp_store 43 (.tmp 10) (.tmp 21) (by rfl) _ 43 _ [.int .i64 fr, .int .i64 sl, .int .i64 dc, .int .i64 pe, .bool false, .int .i64 ti] (by rfl) (by rfl) (by first | exact PBB | exact PBB.drew) (by rfl) (by kernel_rfl) (by rfl) ?_; intro w7 hb0 hg0 hs0; have zP := PBB.lt; (first | replace bg := blk_grM hg0 (fun e => by injection e with e; omega) bg | replace bg := blk_grM hg0 (fun e => by injection e with e; omega) bg.drew); (first | replace bp := blk_grM hg0 (fun e => by injection e with e; omega) bp | replace bp := blk_grM hg0 (fun e => by injection e with e; omega) bp.drew); (first | replace r0 := blk_grM hg0 (fun e => by injection e with e; omega) r0 | replace r0 := blk_grM hg0 (fun e => by injection e with e; omega) r0.drew); (first | replace B := below_grM B hg0 (by omega) | replace B := below_grM B.drew hg0 (by omega)); replace PBB := hb0; clear hb0 hg0; (try clear L_bg L_bp); have L_bg := Lay.f3 bg; have L_bp := Lay.f1 bp)); refine hK.out _ _ ?_ (fun hHeld => ?_); ((try dsimp only); (refine ⟨?_, ?_⟩ <;> exact Bk.sv)); clear hK K)
        try simp only [Act.put, List.setIfInBounds_toArray, List.set_cons_zero, List.set_cons_succ]
        refine wpAnyH_done (by kernel_rfl) ?_ _
        (try clear L_bg L_bp)
        go_wp2_with fail
        go_meet
        exact ⟨_, rfl, by omega, (by first | exact PBB | exact PBB.drew), (by first | exact bg | exact bg.drew), (by first | exact bp | exact bp.drew), (by first | exact r0 | exact r0.drew), (by first | exact B | exact B.drew)⟩
  case rest =>
    obtain ⟨w20, hw20⟩ : ∃ W, W = wc := ⟨_, rfl⟩
    subst hw20
    clear bg bp r0 B
    obtain ⟨pb, rfl, hpb, b0, bg, bp, r0, B⟩ := hcut
    have z20 := B.size
    have zpb := b0.lt
    go_upto_region 2 with fail
    go_cut [10] (fun v wx => v = .pointer (some ⟨pb, 0, none⟩) ∧ Bk.Blk wx pb 43 #[.int .i64 fr, .int .i64 sl, .int .i64 dc, .int .i64 pe, .bool gt, .int .i64 ti] ∧ Bk.Blk wx w.heap.size 27 #[.int .i64 pe, .slice A n c, .int .i64 lo] ∧ Bk.Blk wx (w.heap.size + 1) 39 #[.slice A2 m c2] ∧ Bk.Blk wx (w.heap.size + 1 + 1) 43 #[.int .i64 0, .int .i64 0, .int .i64 0, .int .i64 0, .bool false, .int .i64 0] ∧ Below w.heap.size w wx)
    case first =>
      have hgc := HGC.out
      rcases hgc with ⟨e0, hg⟩ | ⟨e0, e1, hg⟩ | ⟨e0, e1, hg⟩
      · skip
        (try have e1i : decide ((0 : Int) < (n : Int)) = decide (0 < n) := by simp)
        (try rw [e1] at e1i)
        have HG := Lib.hid hg
        clear hg
        have L_bg := Lay.f3 bg
        have L_bp := Lay.f1 bp
        have L_b0 := Lay.f6 b0
        go_wp2_with fail
        clear L_bg L_bp L_b0
        generalize hW : World.setCell _ _ _ = w21
        replace b0 : Bk.Blk w21 (pb) 43 #[.int .i64 fr, .int .i64 sl, .int .i64 dc, .int .i64 pe, .bool false, .int .i64 ti] := (by rw [← hW]; apply Bk.Blk.to; (focus (exact Bk.sv)); rfl)
        replace bg : Bk.Blk w21 (w.heap.size) 27 #[.int .i64 pe, .slice A n c, .int .i64 lo] := (by rw [← hW]; exact Bk.sv)
        replace bp : Bk.Blk w21 (w.heap.size + 1) 39 #[.slice A2 m c2] := (by rw [← hW]; exact Bk.sv)
        replace r0 : Bk.Blk w21 (w.heap.size + 1 + 1) 43 #[.int .i64 0, .int .i64 0, .int .i64 0, .int .i64 0, .bool false, .int .i64 0] := (by rw [← hW]; exact Bk.sv)
        replace B : Below w.heap.size w w21 := (by rw [← hW]; go_grown)
        have z21 : w21.heap.size = _ := congrArg (fun W : World => W.heap.size) hW.symm
        (try simp only [World.size_alloc, Bk.size_set, World.size_drew, World.drewN] at z21)
        clear hW
        go_meet
        exact ⟨rfl, (by rw [HG.out]; exact b0), bg, bp, r0, B⟩
      · skip
        (try have e1i : decide ((0 : Int) < (n : Int)) = decide (0 < n) := by simp)
        (try rw [e1] at e1i)
        have HG := Lib.hid hg
        clear hg
        have L_bg := Lay.f3 bg
        have L_bp := Lay.f1 bp
        have L_b0 := Lay.f6 b0
        go_wp2_with fail
        clear L_bg L_bp L_b0
        generalize hW : World.setCell _ _ _ = w21
        replace b0 : Bk.Blk w21 (pb) 43 #[.int .i64 fr, .int .i64 sl, .int .i64 dc, .int .i64 pe, .bool false, .int .i64 ti] := (by rw [← hW]; apply Bk.Blk.to; (focus (exact Bk.sv)); rfl)
        replace bg : Bk.Blk w21 (w.heap.size) 27 #[.int .i64 pe, .slice A n c, .int .i64 lo] := (by rw [← hW]; exact Bk.sv)
        replace bp : Bk.Blk w21 (w.heap.size + 1) 39 #[.slice A2 m c2] := (by rw [← hW]; exact Bk.sv)
        replace r0 : Bk.Blk w21 (w.heap.size + 1 + 1) 43 #[.int .i64 0, .int .i64 0, .int .i64 0, .int .i64 0, .bool false, .int .i64 0] := (by rw [← hW]; exact Bk.sv)
        replace B : Below w.heap.size w w21 := (by rw [← hW]; go_grown)
        have z21 : w21.heap.size = _ := congrArg (fun W : World => W.heap.size) hW.symm
        (try simp only [World.size_alloc, Bk.size_set, World.size_drew, World.drewN] at z21)
        clear hW
        go_meet
        exact ⟨rfl, (by rw [HG.out]; exact b0), bg, bp, r0, B⟩
      · skip
        (try have e1i : decide ((0 : Int) < (n : Int)) = decide (0 < n) := by simp)
        (try rw [e1] at e1i)
        have HG := Lib.hid hg
        clear hg
        have L_bg := Lay.f3 bg
        have L_bp := Lay.f1 bp
        have L_b0 := Lay.f6 b0
        go_wp2_with fail
        clear L_bg L_bp L_b0
        generalize hW : World.setCell _ _ _ = w21
        replace b0 : Bk.Blk w21 (pb) 43 #[.int .i64 fr, .int .i64 sl, .int .i64 dc, .int .i64 pe, .bool true, .int .i64 ti] := (by rw [← hW]; apply Bk.Blk.to; (focus (exact Bk.sv)); rfl)
        replace bg : Bk.Blk w21 (w.heap.size) 27 #[.int .i64 pe, .slice A n c, .int .i64 lo] := (by rw [← hW]; exact Bk.sv)
        replace bp : Bk.Blk w21 (w.heap.size + 1) 39 #[.slice A2 m c2] := (by rw [← hW]; exact Bk.sv)
        replace r0 : Bk.Blk w21 (w.heap.size + 1 + 1) 43 #[.int .i64 0, .int .i64 0, .int .i64 0, .int .i64 0, .bool false, .int .i64 0] := (by rw [← hW]; exact Bk.sv)
        replace B : Below w.heap.size w w21 := (by rw [← hW]; go_grown)
        have z21 : w21.heap.size = _ := congrArg (fun W : World => W.heap.size) hW.symm
        (try simp only [World.size_alloc, Bk.size_set, World.size_drew, World.drewN] at z21)
        clear hW
        go_meet
        exact ⟨rfl, (by rw [HG.out]; exact b0), bg, bp, r0, B⟩
    case rest =>
      obtain ⟨w30, hw30⟩ : ∃ W, W = wc := ⟨_, rfl⟩
      subst hw30
      clear bg bp r0 b0 B
      obtain ⟨rfl, b0, bg, bp, r0, B⟩ := hcut
      have z30 := B.size
      have L_bg := Lay.f3 bg
      have L_bp := Lay.f1 bp
      have L_r0 := Lay.f6 r0
      have L_b0 := Lay.f6 b0
      go_wp2_with fail
      clear L_bg L_bp L_r0 L_b0
      refine (validGb_spec pe lo A n c xss _ (HR.out.below B)).mono ?_
      rintro x w31 hsay
      obtain ⟨rfl, hb0⟩ := saysB hsay vg HVG.out
      clear hsay
      replace bg : Bk.Blk w31 (w.heap.size) 27 #[.int .i64 pe, .slice A n c, .int .i64 lo] := Bk.Blk.under hb0 (by exact Bk.sv)
      replace bp : Bk.Blk w31 (w.heap.size + 1) 39 #[.slice A2 m c2] := Bk.Blk.under hb0 (by exact Bk.sv)
      replace r0 : Bk.Blk w31 (w.heap.size + 1 + 1) 43 #[.int .i64 0, .int .i64 0, .int .i64 0, .int .i64 0, .bool false, .int .i64 0] := Bk.Blk.under hb0 (by exact Bk.sv)
      replace b0 : Bk.Blk w31 (pb) 43 #[.int .i64 fr, .int .i64 sl, .int .i64 dc, .int .i64 pe, .bool gt, .int .i64 ti] := Bk.Blk.under hb0 (by exact Bk.sv)
      replace B : Below w.heap.size w w31 := Below.trans (by go_grown) (hb0.mono (by first | omega | (simp [Bk.size_set]; done) | (simp [Bk.size_set]; omega)))
      have z31 := hb0.size
      (try simp only [World.size_alloc, Bk.size_set, World.size_drew, World.drewN] at z31)
      clear hb0
      cases vg
      · skip
        have L_bg := Lay.f3 bg
        have L_bp := Lay.f1 bp
        have L_r0 := Lay.f6 r0
        have L_b0 := Lay.f6 b0
        go_wp2_with fail
        clear L_bg L_bp L_r0 L_b0
        generalize hW : World.setCell _ _ _ = w32
        replace r0 : Bk.Blk w32 (w.heap.size + 1 + 1) 43 #[.int .i64 0, .int .i64 0, .int .i64 0, .int .i64 0, .bool false, .int .i64 0] := (by rw [← hW]; apply Bk.Blk.to; (focus (exact Bk.sv)); rfl)
        replace B : Below w.heap.size w w32 := (by rw [← hW]; go_grown)
        have z32 : w32.heap.size = _ := congrArg (fun W : World => W.heap.size) hW.symm
        (try simp only [World.size_alloc, Bk.size_set, World.size_drew, World.drewN] at z32)
        clear hW
        have L_r0 := Lay.c6 r0
        go_wp2
        refine bodyPost_ret (v := .tuple #[.agg #[.int .i64 0, .int .i64 0, .int .i64 0, .int .i64 0, .bool false, .int .i64 0], .bool false]) (by simp [results, Try.results22, go_sem, L_r0]) rfl (⟨rfl, (by first | exact B | exact B.drew)⟩)
      · skip
        have L_bg := Lay.f3 bg
        have L_bp := Lay.f1 bp
        have L_r0 := Lay.f6 r0
        have L_b0 := Lay.f6 b0
        go_wp2_with fail
        clear L_bg L_bp L_r0 L_b0
        refine (validPb_spec A2 m c2 ks _ (HP.out.below B)).mono ?_
        rintro x w32 hsay
        obtain ⟨rfl, hb0⟩ := saysB hsay vp HVP.out
        clear hsay
        replace bg : Bk.Blk w32 (w.heap.size) 27 #[.int .i64 pe, .slice A n c, .int .i64 lo] := Bk.Blk.under hb0 (by exact Bk.sv)
        replace bp : Bk.Blk w32 (w.heap.size + 1) 39 #[.slice A2 m c2] := Bk.Blk.under hb0 (by exact Bk.sv)
        replace r0 : Bk.Blk w32 (w.heap.size + 1 + 1) 43 #[.int .i64 0, .int .i64 0, .int .i64 0, .int .i64 0, .bool false, .int .i64 0] := Bk.Blk.under hb0 (by exact Bk.sv)
        replace b0 : Bk.Blk w32 (pb) 43 #[.int .i64 fr, .int .i64 sl, .int .i64 dc, .int .i64 pe, .bool gt, .int .i64 ti] := Bk.Blk.under hb0 (by exact Bk.sv)
        replace B : Below w.heap.size w w32 := Below.trans (by go_grown) (hb0.mono (by first | omega | (simp [Bk.size_set]; done) | (simp [Bk.size_set]; omega)))
        have z32 := hb0.size
        (try simp only [World.size_alloc, Bk.size_set, World.size_drew, World.drewN] at z32)
        clear hb0
        cases vp
        · skip
          have L_bg := Lay.f3 bg
          have L_bp := Lay.f1 bp
          have L_r0 := Lay.f6 r0
          have L_b0 := Lay.f6 b0
          go_wp2_with fail
          clear L_bg L_bp L_r0 L_b0
          generalize hW : World.setCell _ _ _ = w33
          replace r0 : Bk.Blk w33 (w.heap.size + 1 + 1) 43 #[.int .i64 0, .int .i64 0, .int .i64 0, .int .i64 0, .bool false, .int .i64 0] := (by rw [← hW]; apply Bk.Blk.to; (focus (exact Bk.sv)); rfl)
          replace B : Below w.heap.size w w33 := (by rw [← hW]; go_grown)
          have z33 : w33.heap.size = _ := congrArg (fun W : World => W.heap.size) hW.symm
          (try simp only [World.size_alloc, Bk.size_set, World.size_drew, World.drewN] at z33)
          clear hW
          have L_r0 := Lay.c6 r0
          go_wp2
          refine bodyPost_ret (v := .tuple #[.agg #[.int .i64 0, .int .i64 0, .int .i64 0, .int .i64 0, .bool false, .int .i64 0], .bool false]) (by simp [results, Try.results22, go_sem, L_r0]) rfl (⟨rfl, (by first | exact B | exact B.drew)⟩)
        · skip
          have L_bg := Lay.f3 bg
          have L_bp := Lay.f1 bp
          have L_r0 := Lay.f6 r0
          have L_b0 := Lay.f6 b0
          go_wp2_with fail
          clear L_bg L_bp L_r0 L_b0
          refine (validB_spec fr sl dc pe gt ti _).mono ?_
          rintro x w33 hsay
          obtain ⟨rfl, hb0⟩ := saysB hsay vb HVB.out
          clear hsay
          replace bg : Bk.Blk w33 (w.heap.size) 27 #[.int .i64 pe, .slice A n c, .int .i64 lo] := Bk.Blk.under hb0 (by exact Bk.sv)
          replace bp : Bk.Blk w33 (w.heap.size + 1) 39 #[.slice A2 m c2] := Bk.Blk.under hb0 (by exact Bk.sv)
          replace r0 : Bk.Blk w33 (w.heap.size + 1 + 1) 43 #[.int .i64 0, .int .i64 0, .int .i64 0, .int .i64 0, .bool false, .int .i64 0] := Bk.Blk.under hb0 (by exact Bk.sv)
          replace b0 : Bk.Blk w33 (pb) 43 #[.int .i64 fr, .int .i64 sl, .int .i64 dc, .int .i64 pe, .bool gt, .int .i64 ti] := Bk.Blk.under hb0 (by exact Bk.sv)
          replace B : Below w.heap.size w w33 := Below.trans (by go_grown) (hb0.mono (by first | omega | (simp [Bk.size_set]; done) | (simp [Bk.size_set]; omega)))
          have z33 := hb0.size
          (try simp only [World.size_alloc, Bk.size_set, World.size_drew, World.drewN] at z33)
          clear hb0
          cases vb
          · skip
            have L_r0 := Lay.f6 r0
            have L_b0 := Lay.f6 b0
            go_wp2_with fail
            clear L_r0 L_b0
            generalize hW : World.setCell _ _ _ = w34
            replace r0 : Bk.Blk w34 (w.heap.size + 1 + 1) 43 #[.int .i64 0, .int .i64 0, .int .i64 0, .int .i64 0, .bool false, .int .i64 0] := (by rw [← hW]; apply Bk.Blk.to; (focus (exact Bk.sv)); rfl)
            replace B : Below w.heap.size w w34 := (by rw [← hW]; go_grown)
            have z34 : w34.heap.size = _ := congrArg (fun W : World => W.heap.size) hW.symm
            (try simp only [World.size_alloc, Bk.size_set, World.size_drew, World.drewN] at z34)
            clear hW
            have L_r0 := Lay.c6 r0
            go_wp2
            refine bodyPost_ret (v := .tuple #[.agg #[.int .i64 0, .int .i64 0, .int .i64 0, .int .i64 0, .bool false, .int .i64 0], .bool false]) (by simp [results, Try.results22, go_sem, L_r0]) rfl (⟨rfl, (by first | exact B | exact B.drew)⟩)
          · skip
            have L_r0 := Lay.f6 r0
            have L_b0 := Lay.f6 b0
            go_wp2_with fail
            clear L_r0 L_b0
            generalize hW : World.setCell _ _ _ = w34
            replace r0 : Bk.Blk w34 (w.heap.size + 1 + 1) 43 #[.int .i64 fr, .int .i64 sl, .int .i64 dc, .int .i64 pe, .bool gt, .int .i64 ti] := (by rw [← hW]; apply Bk.Blk.to; (focus (exact Bk.sv)); rfl)
            replace B : Below w.heap.size w w34 := (by rw [← hW]; go_grown)
            have z34 : w34.heap.size = _ := congrArg (fun W : World => W.heap.size) hW.symm
            (try simp only [World.size_alloc, Bk.size_set, World.size_drew, World.drewN] at z34)
            clear hW
            have L_r0 := Lay.c6 r0
            go_wp2
            refine bodyPost_ret (v := .tuple #[.agg #[.int .i64 fr, .int .i64 sl, .int .i64 dc, .int .i64 pe, .bool gt, .int .i64 ti], .bool true]) (by simp [results, Try.results22, go_sem, L_r0]) rfl (⟨rfl, (by first | exact B | exact B.drew)⟩)

end Go.Proofs.Ythdieeaegplnmaa.Pb
