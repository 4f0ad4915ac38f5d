/- The walk of the law of group traffic. -/
import Derived.Test.YthdieeaegplnmaaDrawN
import Derived.Test.YthdieeaegplnmaaMkB
import Derived.Test.YthdieeaegplnmaaKeep
import Derived.Test.YthdieeaegplnmaaKeepA
import Derived.Test.YthdieeaegplnmaaSame
import Derived.Test.YthdieeaegplnmaaAt
namespace Go.Proofs.Ythdieeaegplnmaa.Pb
open Go.RowKit
open Go.Proofs.Ythdieeaegplnmaa.Num Go.Proofs.Ythdieeaegplnmaa.Mem Go.Proofs.Ythdieeaegplnmaa.Hsh Go.Proofs.Ythdieeaegplnmaa.Sls Go.Proofs.Ythdieeaegplnmaa.Own Go.Proofs.Ythdieeaegplnmaa.SS Go.Proofs.Ythdieeaegplnmaa.Gb
set_option linter.unusedSimpArgs false
set_option linter.unusedVariables false
theorem mk_form (fr sl dc pe : Int) (gt : Bool) (ti : Int) (ok : Bool) : ∃ (f s d p : Int) (g : Bool) (t : Int), mkV fr sl dc pe gt ti ok = .agg #[.int .i64 f, .int .i64 s, .int .i64 d, .int .i64 p, .bool g, .int .i64 t] ∧ (ok = true → f = fr ∧ s = sl ∧ d = dc ∧ p = pe ∧ g = gt ∧ t = ti) := by
  cases ok
  · exact ⟨0, 0, 0, 0, false, 0, rfl, fun h => by cases h⟩
  · exact ⟨fr, sl, dc, pe, gt, ti, rfl, fun _ => ⟨rfl, rfl, rfl, rfl, rfl, rfl⟩⟩
theorem goes_any (pe lo s dc : Int) (xss : List (List Int)) (n : Nat) (vg : Bool) (hvg : vg = true ↔ validG pe lo xss n) (hdc : Bcn.dcount s pe = dc) : ∃ (gn : Nat) (gs : List (List Int)) (ln : Nat) (ls : List (List Int)), Goes pe lo s xss n gn gs ln ls ∧ ((vg = true ∧ (dc == 0) = true ∧ 0 = gn ∧ [] = gs ∧ n = ln ∧ xss = ls) ∨ ((vg = false ∨ (dc == 0) = false) ∧ n = gn ∧ xss = gs ∧ 0 = ln ∧ [] = ls)) := by
  by_cases h : validG pe lo xss n ∧ Bcn.dcount s pe = 0
  · exact ⟨0, [], n, xss, .inl ⟨h, rfl, rfl, rfl, rfl⟩, .inl ⟨hvg.2 h.1, by rw [← hdc, h.2]; rfl, rfl, rfl, rfl, rfl⟩⟩
  · refine ⟨n, xss, 0, [], .inr ⟨h, rfl, rfl, rfl, rfl⟩, .inr ⟨?_, rfl, rfl, rfl, rfl⟩⟩
    cases hv : vg
    · exact .inl rfl
    · refine .inr ?_
      rw [beq_eq_false_iff_ne, ← hdc]
      exact fun e => h ⟨hvg.1 hv, e⟩
theorem eqG_same (pe lo : Int) (A : Option Addr) (n c : Nat) (xs : List (List Int)) (B : Option Addr) (d : Nat) (w : World) (hx : RdSS w A n c xs) (hy : RdSS w B n d xs) :
    Calls Try.prog 25 #[.agg #[.int .i64 pe, .slice A n c, .int .i64 lo], .agg #[.int .i64 pe, .slice B n d, .int .i64 lo]] w fun x w' => x = .returned (.bool true) ∧ Below w.heap.size w w' := by
  have HX := Lib.hid hx
  have HY := Lib.hid hy
  clear hx hy
  go_enter Try.func25, Try.ntmps25
  go_wp2_with fail
  refine (eqSS_impl A n c xs B n d xs _ ((HX.out.alloc _).alloc _) ((HY.out.alloc _).alloc _)).mono ?_
  rintro x w1 ⟨rfl, hb⟩
  rw [decide_eq_true rfl]
  have HB := Lib.hid (show Below w.heap.size w w1 from Below.trans (by go_grown) (hb.mono (by simp <;> omega)))
  clear hb
  go_wp2
  go_ret
  exact ⟨rfl, HB.out⟩
theorem newG_any (p : Int) (w : World) : Calls Try.prog 31 #[.int .i64 p] w fun x w' => ∃ (q : Int) (B : Option Addr), (1 ≤ q ∧ q ≤ 8) ∧ x = .returned (.agg #[.int .i64 q, .slice B 0 0, .int .i64 0]) ∧ Below w.heap.size w w' := by
  by_cases h : 1 ≤ p ∧ p ≤ 8
  · obtain ⟨h1, h2⟩ := h
    go_enter Try.func31, Try.ntmps31
    go_wp2_with (first | (go_at_call 74; refine (in_impl_yes _ _ _ _ (by omega) (by omega)).mono ?_; rintro e w' ⟨rfl, rfl⟩))
    refine bodyPost_ret (v := .agg #[.int .i64 p, .slice (some ⟨w.heap.size + 1, 0, none⟩) 0 0, .int .i64 0]) (by simp [results, Try.results31, go_sem]) rfl ?_
    exact ⟨_, _, ⟨h1, h2⟩, rfl, by go_grown⟩
  · have hE : p < 1 ∨ 8 < p := by omega
    clear h
    go_enter Try.func31, Try.ntmps31
    go_wp2_with (first | (go_at_call 74; refine (in_impl_no _ _ _ _ (by omega)).mono ?_; rintro e w' ⟨rfl, rfl⟩))
    refine bodyPost_ret (v := .agg #[.int .i64 1, .slice (some ⟨w.heap.size + 1, 0, none⟩) 0 0, .int .i64 0]) (by simp [results, Try.results31, go_sem]) rfl ?_
    exact ⟨1, _, ⟨by omega, by omega⟩, rfl, by go_grown⟩
/-- a frame given to a valid buffer -/
theorem keepG_gt (pe lo : Int) (A : Option Addr) (n c : Nat) (xss : List (List Int)) (B' : Option Addr) (d : Nat) (w : World) (hv : validG pe lo xss n) (hl : xss.length = n) (hlo : lo ≤ 8) (hs : AllShort xss) (hr : RdSS w A n c xss) (hbd : Rd w 1 B' 1 d (([9] : List Int).map (Value.int .u8))) :
    Calls Try.prog 13 #[.agg #[.int .i64 pe, .slice A n c, .int .i64 lo], .slice B' 1 d] w fun x w' => ∃ (lo2 : Int) (n2 : Nat) (yss : List (List Int)) (A2 : Option Addr) (c2 : Nat), (validG pe lo2 yss n2 ∧ (n2 : Int) + lo2 = (n : Int) + lo + 1 ∧ n2 ≤ 6 ∧ 0 ≤ lo2 ∧ lo2 ≤ 9) ∧ RdSS w' A2 n2 c2 yss ∧ x = .returned (.agg #[.int .i64 pe, .slice A2 n2 c2, .int .i64 lo2]) ∧ Below w.heap.size w w' := by
  have h6 := hv.1.2.1
  have h0 := hv.1.2.2
  by_cases hc : n < 6
  · refine (keep_app_impl pe lo A n c xss B' 1 d [9] w hv hc (by omega) hr hs hbd).mono ?_
    rintro x w' ⟨A2, c2, rfl, hown, hb⟩
    refine ⟨lo, n + 1, xss ++ [[9]], A2, c2, ⟨⟨⟨hv.1.1, by omega, h0⟩, fun i hi => ?_⟩, by omega, by omega, h0, by omega⟩, hown.rd, rfl, hb⟩
    rw [List.getD_eq_getElem?_getD]
    rcases Nat.lt_or_ge i n with h3 | h3
    · rw [List.getElem?_append_left (by omega), ← List.getD_eq_getElem?_getD]; exact hv.2 i h3
    · obtain rfl : i = n := by omega
      rw [List.getElem?_append_right (by omega), hl, Nat.sub_self]
      show ([9] : List Int).length ≤ 100
      simp
  · refine (keep_full_impl pe lo A n c xss B' 1 d w hv (by omega) (by omega) hr (by omega) hs).mono ?_
    rintro x w' ⟨A2, c2, rfl, hown, hb⟩
    rw [IntWalk.wrap64_in _ ⟨by omega, by omega⟩]
    exact ⟨lo + 1, n, xss, A2, c2, ⟨⟨⟨hv.1.1, h6, by omega⟩, hv.2⟩, by omega, h6, by omega, by omega⟩, hown.rd, rfl, hb⟩
set_option maxRecDepth 100000 in
set_option maxHeartbeats 16000000 in
theorem gt_law (A : Option Addr) (n c : Nat) (zs : List Int) (w : World) (hrow : RowIn .u8 w A n c zs) :
    Calls Try.prog 4 #[.slice A n c] w fun e w' => e = .returned (.bool true) ∧ Below w.heap.size w w' := by
  have HR := Lib.hid hrow.1
  have HB := Lib.hid (bytes_of_row hrow)
  have B : Below w.heap.size w w := Below.refl _ _
  clear hrow
  by_cases hbig : 1048576 < (n : Int)
  · go_enter Try.func4, Try.ntmps4
    go_wp2_with (first | (go_at_call 19; refine (big_any _ _ _ _).mono ?_; rintro e w' ⟨rfl, rfl⟩))
    go_ret
    exact ⟨rfl, B⟩
  · have hn : n ≤ 2097152 := by omega
    go_enter Try.func4, Try.ntmps4
    go_wp2_with (first | (go_at_call 19; refine (big_any _ _ _ _).mono ?_; rintro e w' ⟨rfl, rfl⟩))
    refine (drawMb_any A n c zs _ HR.out HB.out hn).mono ?_
    rintro x w1 ⟨pe, lo, N, xss, Ag, cg, M, ks, Ap, cp, fr, sl, ⟨hpe, hlo, hN, hsh⟩, ⟨hM, hfw⟩, hsl, hss, hpb, rfl, hb0⟩
    have HSH := Lib.hid hsh
    have HSS := Lib.hid hss
    have HPB := Lib.hid hpb
    have HXL := Lib.hid hss.1
    clear hss hpb hsh hfw
    obtain ⟨dc, hdc⟩ : ∃ d : Int, Bcn.dcount sl pe = d := ⟨_, rfl⟩
    obtain ⟨ti, hti⟩ : ∃ d : Int, timK ks M = d := ⟨_, rfl⟩
    obtain ⟨gt, hgt⟩ : ∃ d : Bool, gtB dc N = d := ⟨_, rfl⟩
    obtain ⟨vg, hvg⟩ := boolOf (validG pe lo xss N)
    obtain ⟨vp, hvp⟩ := boolOf (validP ks M)
    obtain ⟨vb, hvb⟩ := boolOf (validB fr sl dc pe gt ti)
    obtain ⟨f0, s0, d0, q0, g0, t0, hmk, hfo⟩ := mk_form fr sl dc pe gt ti (vg && vp && vb)
    have HMI := Lib.hid (fun W h1 h2 => mk_impl pe lo Ag N cg xss Ap M cp ks fr sl dc ti gt vg vp vb W hdc hti hgt hvg hvp hvb h1 h2 (by omega))
    have HMS := Lib.hid (fun W h1 h2 => mk_spec pe lo Ag N cg xss Ap M cp ks fr sl dc ti gt vg vp vb W hdc hti hgt hvg hvp hvb h1 h2 (by omega))
    rw [hmk] at HMI HMS
    have HFO := Lib.hid hfo
    have HOK := Lib.hid (show (vg && vp && vb) = true → vg = true ∧ validB fr sl dc pe gt ti from fun h => by
      simp only [Bool.and_eq_true] at h
      exact ⟨h.1.1, hvb.1 h.2⟩)
    have HVG := Lib.hid hvg
    have HDC := Lib.hid hdc
    have HTI := Lib.hid hti
    have HGT := Lib.hid hgt
    generalize (vg && vp && vb) = ok at *
    have hoo : (ok != ok) = false := by cases ok <;> rfl
    clear hmk hfo hvg hdc hti hgt hvp hvb
    replace B : Below w.heap.size w w1 := Below.trans (by go_grown) (hb0.mono (by first | omega | (simp [Bk.size_set]; done) | (simp [Bk.size_set]; omega)))
    have z1 := hb0.size
    (try simp only [World.size_alloc, Bk.size_set, World.size_drew, World.drewN] at z1)
    clear hb0
    go_wp2_with fail
    generalize hW : World.alloc _ _ = w2
    replace HSS := Lib.hid (HSS.out.below (show Below w1.heap.size w1 w2 from by rw [← hW]; go_grown))
    replace HPB := Lib.hid (HPB.out.below (show Below w1.heap.size w1 w2 from by rw [← hW]; go_grown))
    have bg : Bk.Blk w2 (w1.heap.size) 27 #[.int .i64 pe, .slice Ag N cg, .int .i64 lo] := (by rw [← hW]; apply Bk.Blk.to; (focus (exact Bk.sv)); rfl)
    have bp : Bk.Blk w2 (w1.heap.size + 1) 39 #[.slice Ap M cp] := (by rw [← hW]; apply Bk.Blk.to; (focus (exact Bk.sv)); rfl)
    replace B : Below w.heap.size w w2 := (by rw [← hW]; go_grown)
    have z2 : w2.heap.size = _ := congrArg (fun W : World => W.heap.size) hW.symm
    (try simp only [World.size_alloc, Bk.size_set, World.size_drew, World.drewN] at z2)
    clear hW
    refine (HMI.out _ HSS.out HPB.out).mono ?_
    rintro x w3 ⟨rfl, hb0⟩
    replace HSS := Lib.hid (HSS.out.below hb0)
    replace HPB := Lib.hid (HPB.out.below hb0)
    replace bg : Bk.Blk w3 (w1.heap.size) 27 #[.int .i64 pe, .slice Ag N cg, .int .i64 lo] := Bk.Blk.under hb0 (by exact Bk.sv)
    replace bp : Bk.Blk w3 (w1.heap.size + 1) 39 #[.slice Ap M cp] := Bk.Blk.under hb0 (by exact Bk.sv)
    replace B : Below w.heap.size w w3 := Below.trans (by go_grown) (hb0.mono (by first | omega | (simp [Bk.size_set]; done) | (simp [Bk.size_set]; omega)))
    have z3 := hb0.size
    (try simp only [World.size_alloc, Bk.size_set, World.size_drew, World.drewN] at z3)
    clear hb0
    have L_bg := Lay.f3 bg
    have L_bp := Lay.f1 bp
    go_wp2_with fail
    clear L_bg L_bp
    generalize hW : World.alloc _ _ = w4
    replace HSS := Lib.hid (HSS.out.below (show Below w3.heap.size w3 w4 from by rw [← hW]; go_grown))
    replace HPB := Lib.hid (HPB.out.below (show Below w3.heap.size w3 w4 from by rw [← hW]; go_grown))
    have b7 : Bk.Blk w4 (w3.heap.size) 43 #[.int .i64 f0, .int .i64 s0, .int .i64 d0, .int .i64 q0, .bool g0, .int .i64 t0] := (by rw [← hW]; apply Bk.Blk.to; (focus (exact Bk.sv)); rfl)
    replace bg : Bk.Blk w4 (w1.heap.size) 27 #[.int .i64 pe, .slice Ag N cg, .int .i64 lo] := (by rw [← hW]; exact Bk.sv)
    replace bp : Bk.Blk w4 (w1.heap.size + 1) 39 #[.slice Ap M cp] := (by rw [← hW]; exact Bk.sv)
    replace B : Below w.heap.size w w4 := (by rw [← hW]; go_grown)
    have z4 : w4.heap.size = _ := congrArg (fun W : World => W.heap.size) hW.symm
    (try simp only [World.size_alloc, Bk.size_set, World.size_drew, World.drewN] at z4)
    clear hW
    refine (HMS.out _ HSS.out HPB.out).mono ?_
    rintro x w5 ⟨rfl, hb0⟩
    replace HSS := Lib.hid (HSS.out.below hb0)
    replace HPB := Lib.hid (HPB.out.below hb0)
    replace bg : Bk.Blk w5 (w1.heap.size) 27 #[.int .i64 pe, .slice Ag N cg, .int .i64 lo] := Bk.Blk.under hb0 (by exact Bk.sv)
    replace bp : Bk.Blk w5 (w1.heap.size + 1) 39 #[.slice Ap M cp] := Bk.Blk.under hb0 (by exact Bk.sv)
    replace b7 : Bk.Blk w5 (w3.heap.size) 43 #[.int .i64 f0, .int .i64 s0, .int .i64 d0, .int .i64 q0, .bool g0, .int .i64 t0] := Bk.Blk.under hb0 (by exact Bk.sv)
    replace B : Below w.heap.size w w5 := Below.trans (by go_grown) (hb0.mono (by first | omega | (simp [Bk.size_set]; done) | (simp [Bk.size_set]; omega)))
    have z5 := hb0.size
    (try simp only [World.size_alloc, Bk.size_set, World.size_drew, World.drewN] at z5)
    clear hb0
    clear HMI HMS
    have L_bg := Lay.f3 bg
    go_wp2_with fail
    clear L_bg
    generalize hW : World.alloc _ _ = w6
    replace HSS := Lib.hid (HSS.out.below (show Below w5.heap.size w5 w6 from by rw [← hW]; go_grown))
    replace HPB := Lib.hid (HPB.out.below (show Below w5.heap.size w5 w6 from by rw [← hW]; go_grown))
    replace bg : Bk.Blk w6 (w1.heap.size) 27 #[.int .i64 pe, .slice Ag N cg, .int .i64 lo] := (by rw [← hW]; exact Bk.sv)
    replace bp : Bk.Blk w6 (w1.heap.size + 1) 39 #[.slice Ap M cp] := (by rw [← hW]; exact Bk.sv)
    replace b7 : Bk.Blk w6 (w3.heap.size) 43 #[.int .i64 f0, .int .i64 s0, .int .i64 d0, .int .i64 q0, .bool g0, .int .i64 t0] := (by rw [← hW]; exact Bk.sv)
    replace B : Below w.heap.size w w6 := (by rw [← hW]; go_grown)
    have z6 : w6.heap.size = _ := congrArg (fun W : World => W.heap.size) hW.symm
    (try simp only [World.size_alloc, Bk.size_set, World.size_drew, World.drewN] at z6)
    clear hW
    obtain ⟨gn, gs, ln, ls, hgo, hca⟩ := goes_any pe lo sl dc xss N vg HVG.out HDC.out
    refine (rel_impl pe lo sl Ag N cg xss gn gs ln ls _ hgo HSS.out (by omega) HSH.out (by omega)).mono ?_
    rintro x w7 ⟨Ax, cx, Bl, dz, rfl, hown, hb0⟩
    have HX := Lib.hid hown.rdx
    have HY := Lib.hid hown.rdy
    clear hgo hown
    replace HSS := Lib.hid (HSS.out.below hb0)
    replace HPB := Lib.hid (HPB.out.below hb0)
    replace bg : Bk.Blk w7 (w1.heap.size) 27 #[.int .i64 pe, .slice Ag N cg, .int .i64 lo] := Bk.Blk.under hb0 (by exact Bk.sv)
    replace bp : Bk.Blk w7 (w1.heap.size + 1) 39 #[.slice Ap M cp] := Bk.Blk.under hb0 (by exact Bk.sv)
    replace b7 : Bk.Blk w7 (w3.heap.size) 43 #[.int .i64 f0, .int .i64 s0, .int .i64 d0, .int .i64 q0, .bool g0, .int .i64 t0] := Bk.Blk.under hb0 (by exact Bk.sv)
    replace B : Below w.heap.size w w7 := Below.trans (by go_grown) (hb0.mono (by first | omega | (simp [Bk.size_set]; done) | (simp [Bk.size_set]; omega)))
    have z7 := hb0.size
    (try simp only [World.size_alloc, Bk.size_set, World.size_drew, World.drewN] at z7)
    clear hb0
    have L_bg := Lay.f3 bg
    go_wp2_with fail
    clear L_bg
    generalize hW : World.alloc _ _ = w8
    have hb8 : Below w7.heap.size w7 w8 := by rw [← hW]; go_grown
    replace HSS := Lib.hid (HSS.out.below hb8)
    replace HPB := Lib.hid (HPB.out.below hb8)
    replace HX := Lib.hid (HX.out.below hb8)
    replace HY := Lib.hid (HY.out.below hb8)
    clear hb8
    have b11 : Bk.Blk w8 (w7.heap.size) 27 #[.int .i64 pe, .slice Ax gn cx, .int .i64 lo] := (by rw [← hW]; apply Bk.Blk.to; (focus (exact Bk.sv)); rfl)
    replace bg : Bk.Blk w8 (w1.heap.size) 27 #[.int .i64 pe, .slice Ag N cg, .int .i64 lo] := (by rw [← hW]; exact Bk.sv)
    replace bp : Bk.Blk w8 (w1.heap.size + 1) 39 #[.slice Ap M cp] := (by rw [← hW]; exact Bk.sv)
    replace b7 : Bk.Blk w8 (w3.heap.size) 43 #[.int .i64 f0, .int .i64 s0, .int .i64 d0, .int .i64 q0, .bool g0, .int .i64 t0] := (by rw [← hW]; exact Bk.sv)
    replace B : Below w.heap.size w w8 := (by rw [← hW]; go_grown)
    have z8 : w8.heap.size = _ := congrArg (fun W : World => W.heap.size) hW.symm
    (try simp only [World.size_alloc, Bk.size_set, World.size_drew, World.drewN] at z8)
    clear hW
    refine (validGb_spec pe lo Ag N cg xss _ HSS.out).mono ?_
    rintro x w9 hsay
    obtain ⟨rfl, hb0⟩ := saysB hsay vg HVG.out
    clear hsay
    replace HSS := Lib.hid (HSS.out.below hb0)
    replace HPB := Lib.hid (HPB.out.below hb0)
    replace HX := Lib.hid (HX.out.below hb0)
    replace HY := Lib.hid (HY.out.below hb0)
    replace bg : Bk.Blk w9 (w1.heap.size) 27 #[.int .i64 pe, .slice Ag N cg, .int .i64 lo] := Bk.Blk.under hb0 (by exact Bk.sv)
    replace bp : Bk.Blk w9 (w1.heap.size + 1) 39 #[.slice Ap M cp] := Bk.Blk.under hb0 (by exact Bk.sv)
    replace b7 : Bk.Blk w9 (w3.heap.size) 43 #[.int .i64 f0, .int .i64 s0, .int .i64 d0, .int .i64 q0, .bool g0, .int .i64 t0] := Bk.Blk.under hb0 (by exact Bk.sv)
    replace b11 : Bk.Blk w9 (w7.heap.size) 27 #[.int .i64 pe, .slice Ax gn cx, .int .i64 lo] := Bk.Blk.under hb0 (by exact Bk.sv)
    replace B : Below w.heap.size w w9 := Below.trans (by go_grown) (hb0.mono (by first | omega | (simp [Bk.size_set]; done) | (simp [Bk.size_set]; omega)))
    have z9 := hb0.size
    (try simp only [World.size_alloc, Bk.size_set, World.size_drew, World.drewN] at z9)
    clear hb0
    cases vg
    · obtain ⟨rfl, rfl, rfl, rfl⟩ : N = gn ∧ xss = gs ∧ 0 = ln ∧ [] = ls := by
        rcases hca with ⟨h, _⟩ | ⟨_, h⟩
        · cases h
        · exact h
      have L_bg := Lay.f3 bg
      have L_b11 := Lay.f3 b11
      go_wp2_with fail
      clear L_bg L_b11
      refine (eqG_same pe lo Ax _ cx _ Ag cg _ HX.out HSS.out).mono ?_
      rintro x w10 ⟨rfl, hb0⟩
      replace HSS := Lib.hid (HSS.out.below hb0)
      replace bg : Bk.Blk w10 (w1.heap.size) 27 #[.int .i64 pe, .slice Ag N cg, .int .i64 lo] := Bk.Blk.under hb0 (by exact Bk.sv)
      replace B : Below w.heap.size w w10 := Below.trans (by go_grown) (hb0.mono (by first | omega | (simp [Bk.size_set]; done) | (simp [Bk.size_set]; omega)))
      have z10 := hb0.size
      (try simp only [World.size_alloc, Bk.size_set, World.size_drew, World.drewN] at z10)
      clear hb0
      have L_bg := Lay.f3 bg
      go_wp2_with fail
      clear L_bg
      refine (validGb_impl pe lo Ag _ cg _ _ HSS.out).mono ?_
      rintro x w11 hsay
      obtain ⟨rfl, hb0⟩ := saysB hsay false HVG.out
      clear hsay
      replace B : Below w.heap.size w w11 := Below.trans (by go_grown) (hb0.mono (by first | omega | (simp [Bk.size_set]; done) | (simp [Bk.size_set]; omega)))
      have z11 := hb0.size
      (try simp only [World.size_alloc, Bk.size_set, World.size_drew, World.drewN] at z11)
      clear hb0
      go_wp2
      go_ret
      exact ⟨rfl, B⟩
    · have HCA := Lib.hid hca
      clear hca
      obtain ⟨dl, hdl⟩ : ∃ b : Bool, (dc == 0) = b := ⟨_, rfl⟩
      obtain ⟨z, hz⟩ : ∃ b : Bool, decide (0 < N) = b := ⟨_, rfl⟩
      have HGD := Lib.hid (show gt = (dl && z) from by rw [← HGT.out, ← hdl, ← hz]; rfl)
      have hz2 : decide ((0 : Int) < (N : Int)) = z := by rw [← hz]; exact decide_eq_decide.2 (by omega)
      have hzz : (z != z) = false := by cases z <;> rfl
      have htt : (ti != ti) = false := by simp
      have L_bg := Lay.f3 bg
      go_upto_region 12 with (first | (go_at_call 27; refine (dtim_spec sl pe _ (by omega)).mono ?_; rintro e w' ⟨rfl, rfl⟩; rw [HDC.out]))
      clear L_bg
      go_cut [94] (fun v wx => v = .bool false ∧ Below w9.heap.size w9 wx)
      case first =>
        have D : Below w9.heap.size w9 w9 := Below.refl _ _
        cases ok
        · skip
          refine wp_region_held_drew (S := (fun _ => True)) (by kernel_rfl) ?_ (fun hHeld => ?_)
          · (try dsimp only); skip
          first | refine Reg.tkA 0 (Reg.get rfl) hHeld ?_ | refine Reg.tkB 0 (Reg.get rfl) hHeld ?_
          try simp only [Act.put, List.setIfInBounds_toArray, List.set_cons_zero, List.set_cons_succ]
          first | refine Reg.tkA 1 (Reg.get rfl) hHeld ?_ | refine Reg.tkB 1 (Reg.get rfl) hHeld ?_
          try simp only [Act.put, List.setIfInBounds_toArray, List.set_cons_zero, List.set_cons_succ]
          first | refine Reg.tkA 2 (Reg.get rfl) hHeld ?_ | refine Reg.tkB 2 (Reg.get rfl) hHeld ?_
          try simp only [Act.put, List.setIfInBounds_toArray, List.set_cons_zero, List.set_cons_succ]
          first | ((refine Reg.tkB 3 (Reg.get rfl) hHeld ?_)) | (refine wpAnyH_ready (rs := [3]) (by kernel_rfl) (by simp) ?_; refine AllReadyH.cons (Reg.get rfl) (fun K hK => ?_) AllReadyH.nil; clear hHeld; go_simp; (fail); refine hK.out _ _ ?_ (fun hHeld => ?_); ((try dsimp only); skip); clear hK K)
          try simp only [Act.put, List.setIfInBounds_toArray, List.set_cons_zero, List.set_cons_succ]
          first | refine Reg.tkA 4 (Reg.get rfl) hHeld ?_ | refine Reg.tkB 4 (Reg.get rfl) hHeld ?_
          try simp only [Act.put, List.setIfInBounds_toArray, List.set_cons_zero, List.set_cons_succ]
          first | refine Reg.tkA 5 (Reg.get rfl) hHeld ?_ | refine Reg.tkB 5 (Reg.get rfl) hHeld ?_
          try simp only [Act.put, List.setIfInBounds_toArray, List.set_cons_zero, List.set_cons_succ]
          first | refine Reg.tkA 6 (Reg.get rfl) hHeld ?_ | refine Reg.tkB 6 (Reg.get rfl) hHeld ?_
          try simp only [Act.put, List.setIfInBounds_toArray, List.set_cons_zero, List.set_cons_succ]
          first | refine Reg.tkA 7 (Reg.get rfl) hHeld ?_ | refine Reg.tkB 7 (Reg.get rfl) hHeld ?_
          try simp only [Act.put, List.setIfInBounds_toArray, List.set_cons_zero, List.set_cons_succ]
          first | refine Reg.tkA 8 (Reg.get rfl) hHeld ?_ | refine Reg.tkB 8 (Reg.get rfl) hHeld ?_
          try simp only [Act.put, List.setIfInBounds_toArray, List.set_cons_zero, List.set_cons_succ]
          first | ((refine Reg.tkB 9 (Reg.get rfl) hHeld ?_)) | (refine wpAnyH_ready (rs := [9]) (by kernel_rfl) (by simp) ?_; refine AllReadyH.cons (Reg.get rfl) (fun K hK => ?_) AllReadyH.nil; clear hHeld; go_simp; (fail); refine hK.out _ _ ?_ (fun hHeld => ?_); ((try dsimp only); skip); clear hK K)
          try simp only [Act.put, List.setIfInBounds_toArray, List.set_cons_zero, List.set_cons_succ]
          first | refine Reg.tkA 10 (Reg.get rfl) hHeld ?_ | refine Reg.tkB 10 (Reg.get rfl) hHeld ?_
          try simp only [Act.put, List.setIfInBounds_toArray, List.set_cons_zero, List.set_cons_succ]
          first | refine Reg.tkA 11 (Reg.get rfl) hHeld ?_ | refine Reg.tkB 11 (Reg.get rfl) hHeld ?_
          try simp only [Act.put, List.setIfInBounds_toArray, List.set_cons_zero, List.set_cons_succ]
          first | refine Reg.tkA 12 (Reg.get rfl) hHeld ?_ | refine Reg.tkB 12 (Reg.get rfl) hHeld ?_
          try simp only [Act.put, List.setIfInBounds_toArray, List.set_cons_zero, List.set_cons_succ]
          first | refine Reg.tkA 13 (Reg.get rfl) hHeld ?_ | refine Reg.tkB 13 (Reg.get rfl) hHeld ?_
          try simp only [Act.put, List.setIfInBounds_toArray, List.set_cons_zero, List.set_cons_succ]
          first | refine Reg.tkA 14 (Reg.get rfl) hHeld ?_ | refine Reg.tkB 14 (Reg.get rfl) hHeld ?_
          try simp only [Act.put, List.setIfInBounds_toArray, List.set_cons_zero, List.set_cons_succ]
          first | refine Reg.tkA 15 (Reg.get rfl) hHeld ?_ | refine Reg.tkB 15 (Reg.get rfl) hHeld ?_
          try simp only [Act.put, List.setIfInBounds_toArray, List.set_cons_zero, List.set_cons_succ]
          first | refine Reg.tkA 16 (Reg.get rfl) hHeld ?_ | refine Reg.tkB 16 (Reg.get rfl) hHeld ?_
          try simp only [Act.put, List.setIfInBounds_toArray, List.set_cons_zero, List.set_cons_succ]
          first | refine Reg.tkA 17 (Reg.get rfl) hHeld ?_ | refine Reg.tkB 17 (Reg.get rfl) hHeld ?_
          try simp only [Act.put, List.setIfInBounds_toArray, List.set_cons_zero, List.set_cons_succ]
          first | refine Reg.tkA 18 (Reg.get rfl) hHeld ?_ | refine Reg.tkB 18 (Reg.get rfl) hHeld ?_
          try simp only [Act.put, List.setIfInBounds_toArray, List.set_cons_zero, List.set_cons_succ]
          first | refine Reg.tkA 19 (Reg.get rfl) hHeld ?_ | refine Reg.tkB 19 (Reg.get rfl) hHeld ?_
          try simp only [Act.put, List.setIfInBounds_toArray, List.set_cons_zero, List.set_cons_succ]
          first | refine Reg.tkA 20 (Reg.get rfl) hHeld ?_ | refine Reg.tkB 20 (Reg.get rfl) hHeld ?_
          try simp only [Act.put, List.setIfInBounds_toArray, List.set_cons_zero, List.set_cons_succ]
          first | refine Reg.tkA 21 (Reg.get rfl) hHeld ?_ | refine Reg.tkB 21 (Reg.get rfl) hHeld ?_
          try simp only [Act.put, List.setIfInBounds_toArray, List.set_cons_zero, List.set_cons_succ]
          first | refine Reg.tkA 22 (Reg.get rfl) hHeld ?_ | refine Reg.tkB 22 (Reg.get rfl) hHeld ?_
          try simp only [Act.put, List.setIfInBounds_toArray, List.set_cons_zero, List.set_cons_succ]
          first | refine Reg.tkA 23 (Reg.get rfl) hHeld ?_ | refine Reg.tkB 23 (Reg.get rfl) hHeld ?_
          try simp only [Act.put, List.setIfInBounds_toArray, List.set_cons_zero, List.set_cons_succ]
          first | refine Reg.tkA 24 (Reg.get rfl) hHeld ?_ | refine Reg.tkB 24 (Reg.get rfl) hHeld ?_
          try simp only [Act.put, List.setIfInBounds_toArray, List.set_cons_zero, List.set_cons_succ]
          refine wpAnyH_done (by kernel_rfl) ?_ _
          go_wp2_with fail
          go_meet
          exact ⟨rfl, D.drew⟩
        · obtain ⟨e1, e2, e3, e4, e5, e6⟩ := HFO.out rfl
          have hvb := Lib.hid (HOK.out rfl).2
          subst f0 s0 d0 q0 g0 t0
          have hgd := HGD.out
          cases dl
          · obtain rfl : gt = false := hgd
            have L_b7 := Lay.f6 b7
            have L_bp := Lay.f1 bp
            refine wp_region_held_drew (S := (fun w' => Bk.Blk w' (w3.heap.size) 43 #[.int .i64 fr, .int .i64 sl, .int .i64 dc, .int .i64 pe, .bool false, .int .i64 ti] ∧ Bk.Blk w' (w1.heap.size + 1) 39 #[.slice Ap M cp])) (by kernel_rfl) ?_ (fun hHeld => ?_)
            · (try dsimp only); (refine ⟨?_, ?_⟩ <;> exact Bk.sv)
            first | (refine Reg.tkC 0 ?_ (Reg.get rfl) ?_ hHeld ?_; rotate_left 1; (focus (intro wq hSw; (try dsimp only at hSw); obtain ⟨s_b7, s_bp⟩ := hSw; have L_b7 := Lay.c6 s_b7; have L_bp := Lay.c1 s_bp;  go_simp <;> with_reducible rfl))) | (refine Reg.tkB 0 (Reg.get rfl) hHeld ?_)
            try simp only [Act.put, List.setIfInBounds_toArray, List.set_cons_zero, List.set_cons_succ]
            first | (refine Reg.tkC 1 ?_ (Reg.get rfl) ?_ hHeld ?_; rotate_left 1; (focus (intro wq hSw; (try dsimp only at hSw); obtain ⟨s_b7, s_bp⟩ := hSw; have L_b7 := Lay.c6 s_b7; have L_bp := Lay.c1 s_bp;  go_simp <;> with_reducible rfl))) | (refine Reg.tkB 1 (Reg.get rfl) hHeld ?_)
            try simp only [Act.put, List.setIfInBounds_toArray, List.set_cons_zero, List.set_cons_succ]
            first | (refine Reg.tkC 2 ?_ (Reg.get rfl) ?_ hHeld ?_; rotate_left 1; (focus (intro wq hSw; (try dsimp only at hSw); obtain ⟨s_b7, s_bp⟩ := hSw; have L_b7 := Lay.c6 s_b7; have L_bp := Lay.c1 s_bp;  go_simp <;> with_reducible rfl))) | (refine Reg.tkB 2 (Reg.get rfl) hHeld ?_)
            try simp only [Act.put, List.setIfInBounds_toArray, List.set_cons_zero, List.set_cons_succ]
            first | ((refine Reg.tkB 3 (Reg.get rfl) hHeld ?_)) | (refine wpAnyH_ready (rs := [3]) (by kernel_rfl) (by simp) ?_; refine AllReadyH.cons (Reg.get rfl) (fun K hK => ?_) AllReadyH.nil; clear hHeld; go_simp; ((go_at_call 28; refine (validB_impl fr sl dc pe false ti _).mono ?_; rintro x w10 hsay; obtain ⟨rfl, hb0⟩ := says_true hsay hvb.out; clear hsay; (first | replace HPB := Lib.hid (HPB.out.below hb0) | replace HPB := Lib.hid (HPB.out.drew.below hb0)); (first | replace D := stepB D hb0 D.size | replace D := stepB D.drew hb0 D.drew.size); replace b7 : Bk.Blk w10 (w3.heap.size) 43 #[.int .i64 fr, .int .i64 sl, .int .i64 dc, .int .i64 pe, .bool false, .int .i64 ti] := Bk.Blk.under hb0 (by exact Bk.sv); replace bp : Bk.Blk w10 (w1.heap.size + 1) 39 #[.slice Ap M cp] := Bk.Blk.under hb0 (by exact Bk.sv); replace B : Below w.heap.size w w10 := Below.trans (by go_grown) (hb0.mono (by first | omega | (simp [Bk.size_set]; done) | (simp [Bk.size_set]; omega))); have z10 := hb0.size; (try simp only [World.size_alloc, Bk.size_set, World.size_drew, World.drewN] at z10); clear hb0; have L_b7 := Lay.f6 b7; have L_bp := Lay.f1 bp)); refine hK.out _ _ ?_ (fun hHeld => ?_); ((try dsimp only); (refine ⟨?_, ?_⟩ <;> exact Bk.sv)); clear hK K)
            try simp only [Act.put, List.setIfInBounds_toArray, List.set_cons_zero, List.set_cons_succ]
            first | (refine Reg.tkC 4 ?_ (Reg.get rfl) ?_ hHeld ?_; rotate_left 1; (focus (intro wq hSw; (try dsimp only at hSw); obtain ⟨s_b7, s_bp⟩ := hSw; have L_b7 := Lay.c6 s_b7; have L_bp := Lay.c1 s_bp;  go_simp <;> with_reducible rfl))) | (refine Reg.tkB 4 (Reg.get rfl) hHeld ?_)
            try simp only [Act.put, List.setIfInBounds_toArray, List.set_cons_zero, List.set_cons_succ]
            first | (refine Reg.tkC 5 ?_ (Reg.get rfl) ?_ hHeld ?_; rotate_left 1; (focus (intro wq hSw; (try dsimp only at hSw); obtain ⟨s_b7, s_bp⟩ := hSw; have L_b7 := Lay.c6 s_b7; have L_bp := Lay.c1 s_bp;  go_simp <;> with_reducible rfl))) | (refine Reg.tkB 5 (Reg.get rfl) hHeld ?_)
            try simp only [Act.put, List.setIfInBounds_toArray, List.set_cons_zero, List.set_cons_succ]
            first | (refine Reg.tkC 6 ?_ (Reg.get rfl) ?_ hHeld ?_; rotate_left 1; (focus (intro wq hSw; (try dsimp only at hSw); obtain ⟨s_b7, s_bp⟩ := hSw; have L_b7 := Lay.c6 s_b7; have L_bp := Lay.c1 s_bp;  go_simp <;> with_reducible rfl))) | (refine Reg.tkB 6 (Reg.get rfl) hHeld ?_)
            try simp only [Act.put, List.setIfInBounds_toArray, List.set_cons_zero, List.set_cons_succ]
            first | (refine Reg.tkC 7 ?_ (Reg.get rfl) ?_ hHeld ?_; rotate_left 1; (focus (intro wq hSw; (try dsimp only at hSw); obtain ⟨s_b7, s_bp⟩ := hSw; have L_b7 := Lay.c6 s_b7; have L_bp := Lay.c1 s_bp;  go_simp <;> with_reducible rfl))) | (refine Reg.tkB 7 (Reg.get rfl) hHeld ?_)
            try simp only [Act.put, List.setIfInBounds_toArray, List.set_cons_zero, List.set_cons_succ]
            first | (refine Reg.tkC 8 ?_ (Reg.get rfl) ?_ hHeld ?_; rotate_left 1; (focus (intro wq hSw; (try dsimp only at hSw); obtain ⟨s_b7, s_bp⟩ := hSw; have L_b7 := Lay.c6 s_b7; have L_bp := Lay.c1 s_bp;  go_simp <;> with_reducible rfl))) | (refine Reg.tkB 8 (Reg.get rfl) hHeld ?_)
            try simp only [Act.put, List.setIfInBounds_toArray, List.set_cons_zero, List.set_cons_succ]
            first | ((refine Reg.tkB 9 (Reg.get rfl) hHeld ?_)) | (refine wpAnyH_ready (rs := [9]) (by kernel_rfl) (by simp) ?_; refine AllReadyH.cons (Reg.get rfl) (fun K hK => ?_) AllReadyH.nil; clear hHeld; go_simp; ((go_at_call 29; refine (tim_spec Ap M cp ks _ HPB.out).mono ?_; rintro x w11 ⟨rfl, hb0⟩; rw [HTI.out]; (first | replace D := stepB D hb0 D.size | replace D := stepB D.drew hb0 D.drew.size); replace b7 : Bk.Blk w11 (w3.heap.size) 43 #[.int .i64 fr, .int .i64 sl, .int .i64 dc, .int .i64 pe, .bool false, .int .i64 ti] := Bk.Blk.under hb0 (by exact Bk.sv); replace bp : Bk.Blk w11 (w1.heap.size + 1) 39 #[.slice Ap M cp] := Bk.Blk.under hb0 (by exact Bk.sv); replace B : Below w.heap.size w w11 := Below.trans (by go_grown) (hb0.mono (by first | omega | (simp [Bk.size_set]; done) | (simp [Bk.size_set]; omega))); have z11 := hb0.size; (try simp only [World.size_alloc, Bk.size_set, World.size_drew, World.drewN] at z11); clear hb0; have L_b7 := Lay.f6 b7; have L_bp := Lay.f1 bp)); refine hK.out _ _ ?_ (fun hHeld => ?_); ((try dsimp only); (refine ⟨?_, ?_⟩ <;> exact Bk.sv)); clear hK K)
            try simp only [Act.put, List.setIfInBounds_toArray, List.set_cons_zero, List.set_cons_succ]
            first | (refine Reg.tkC 10 ?_ (Reg.get rfl) ?_ hHeld ?_; rotate_left 1; (focus (intro wq hSw; (try dsimp only at hSw); obtain ⟨s_b7, s_bp⟩ := hSw; have L_b7 := Lay.c6 s_b7; have L_bp := Lay.c1 s_bp;  go_simp <;> with_reducible rfl))) | (refine Reg.tkB 10 (Reg.get rfl) hHeld ?_)
            try simp only [Act.put, List.setIfInBounds_toArray, List.set_cons_zero, List.set_cons_succ]
            first | (refine Reg.tkC 11 ?_ (Reg.get rfl) ?_ hHeld ?_; rotate_left 1; (focus (intro wq hSw; (try dsimp only at hSw); obtain ⟨s_b7, s_bp⟩ := hSw; have L_b7 := Lay.c6 s_b7; have L_bp := Lay.c1 s_bp;  go_simp <;> with_reducible rfl))) | (refine Reg.tkB 11 (Reg.get rfl) hHeld ?_)
            try simp only [Act.put, List.setIfInBounds_toArray, List.set_cons_zero, List.set_cons_succ]
            first | (refine Reg.tkC 12 ?_ (Reg.get rfl) ?_ hHeld ?_; rotate_left 1; (focus (intro wq hSw; (try dsimp only at hSw); obtain ⟨s_b7, s_bp⟩ := hSw; have L_b7 := Lay.c6 s_b7; have L_bp := Lay.c1 s_bp;  go_simp <;> with_reducible rfl))) | (refine Reg.tkB 12 (Reg.get rfl) hHeld ?_)
            try simp only [Act.put, List.setIfInBounds_toArray, List.set_cons_zero, List.set_cons_succ]
            first | (refine Reg.tkC 13 ?_ (Reg.get rfl) ?_ hHeld ?_; rotate_left 1; (focus (intro wq hSw; (try dsimp only at hSw); obtain ⟨s_b7, s_bp⟩ := hSw; have L_b7 := Lay.c6 s_b7; have L_bp := Lay.c1 s_bp;  go_simp <;> with_reducible rfl))) | (refine Reg.tkB 13 (Reg.get rfl) hHeld ?_)
            try simp only [Act.put, List.setIfInBounds_toArray, List.set_cons_zero, List.set_cons_succ]
            first | (refine Reg.tkC 14 ?_ (Reg.get rfl) ?_ hHeld ?_; rotate_left 1; (focus (intro wq hSw; (try dsimp only at hSw); obtain ⟨s_b7, s_bp⟩ := hSw; have L_b7 := Lay.c6 s_b7; have L_bp := Lay.c1 s_bp;  go_simp <;> with_reducible rfl))) | (refine Reg.tkB 14 (Reg.get rfl) hHeld ?_)
            try simp only [Act.put, List.setIfInBounds_toArray, List.set_cons_zero, List.set_cons_succ]
            first | (refine Reg.tkC 15 ?_ (Reg.get rfl) ?_ hHeld ?_; rotate_left 1; (focus (intro wq hSw; (try dsimp only at hSw); obtain ⟨s_b7, s_bp⟩ := hSw; have L_b7 := Lay.c6 s_b7; have L_bp := Lay.c1 s_bp;  go_simp <;> with_reducible rfl))) | (refine Reg.tkB 15 (Reg.get rfl) hHeld ?_)
            try simp only [Act.put, List.setIfInBounds_toArray, List.set_cons_zero, List.set_cons_succ]
            first | (refine Reg.tkC 16 ?_ (Reg.get rfl) ?_ hHeld ?_; rotate_left 1; (focus (intro wq hSw; (try dsimp only at hSw); obtain ⟨s_b7, s_bp⟩ := hSw; have L_b7 := Lay.c6 s_b7; have L_bp := Lay.c1 s_bp;  go_simp <;> with_reducible rfl))) | (refine Reg.tkB 16 (Reg.get rfl) hHeld ?_)
            try simp only [Act.put, List.setIfInBounds_toArray, List.set_cons_zero, List.set_cons_succ]
            first | (refine Reg.tkC 17 ?_ (Reg.get rfl) ?_ hHeld ?_; rotate_left 1; (focus (intro wq hSw; (try dsimp only at hSw); obtain ⟨s_b7, s_bp⟩ := hSw; have L_b7 := Lay.c6 s_b7; have L_bp := Lay.c1 s_bp;  go_simp <;> with_reducible rfl))) | (refine Reg.tkB 17 (Reg.get rfl) hHeld ?_)
            try simp only [Act.put, List.setIfInBounds_toArray, List.set_cons_zero, List.set_cons_succ]
            first | (refine Reg.tkC 18 ?_ (Reg.get rfl) ?_ hHeld ?_; rotate_left 1; (focus (intro wq hSw; (try dsimp only at hSw); obtain ⟨s_b7, s_bp⟩ := hSw; have L_b7 := Lay.c6 s_b7; have L_bp := Lay.c1 s_bp;  go_simp <;> with_reducible rfl))) | (refine Reg.tkB 18 (Reg.get rfl) hHeld ?_)
            try simp only [Act.put, List.setIfInBounds_toArray, List.set_cons_zero, List.set_cons_succ]
            first | (refine Reg.tkC 19 ?_ (Reg.get rfl) ?_ hHeld ?_; rotate_left 1; (focus (intro wq hSw; (try dsimp only at hSw); obtain ⟨s_b7, s_bp⟩ := hSw; have L_b7 := Lay.c6 s_b7; have L_bp := Lay.c1 s_bp;  go_simp <;> with_reducible rfl))) | (refine Reg.tkB 19 (Reg.get rfl) hHeld ?_)
            try simp only [Act.put, List.setIfInBounds_toArray, List.set_cons_zero, List.set_cons_succ]
            first | (refine Reg.tkC 20 ?_ (Reg.get rfl) ?_ hHeld ?_; rotate_left 1; (focus (intro wq hSw; (try dsimp only at hSw); obtain ⟨s_b7, s_bp⟩ := hSw; have L_b7 := Lay.c6 s_b7; have L_bp := Lay.c1 s_bp;  go_simp <;> with_reducible rfl))) | (refine Reg.tkB 20 (Reg.get rfl) hHeld ?_)
            try simp only [Act.put, List.setIfInBounds_toArray, List.set_cons_zero, List.set_cons_succ]
            first | (refine Reg.tkC 21 ?_ (Reg.get rfl) ?_ hHeld ?_; rotate_left 1; (focus (intro wq hSw; (try dsimp only at hSw); obtain ⟨s_b7, s_bp⟩ := hSw; have L_b7 := Lay.c6 s_b7; have L_bp := Lay.c1 s_bp;  go_simp <;> with_reducible rfl))) | (refine Reg.tkB 21 (Reg.get rfl) hHeld ?_)
            try simp only [Act.put, List.setIfInBounds_toArray, List.set_cons_zero, List.set_cons_succ]
            first | (refine Reg.tkC 22 ?_ (Reg.get rfl) ?_ hHeld ?_; rotate_left 1; (focus (intro wq hSw; (try dsimp only at hSw); obtain ⟨s_b7, s_bp⟩ := hSw; have L_b7 := Lay.c6 s_b7; have L_bp := Lay.c1 s_bp;  go_simp <;> with_reducible rfl))) | (refine Reg.tkB 22 (Reg.get rfl) hHeld ?_)
            try simp only [Act.put, List.setIfInBounds_toArray, List.set_cons_zero, List.set_cons_succ]
            first | (refine Reg.tkC 23 ?_ (Reg.get rfl) ?_ hHeld ?_; rotate_left 1; (focus (intro wq hSw; (try dsimp only at hSw); obtain ⟨s_b7, s_bp⟩ := hSw; have L_b7 := Lay.c6 s_b7; have L_bp := Lay.c1 s_bp;  go_simp <;> with_reducible rfl))) | (refine Reg.tkB 23 (Reg.get rfl) hHeld ?_)
            try simp only [Act.put, List.setIfInBounds_toArray, List.set_cons_zero, List.set_cons_succ]
            first | (refine Reg.tkC 24 ?_ (Reg.get rfl) ?_ hHeld ?_; rotate_left 1; (focus (intro wq hSw; (try dsimp only at hSw); obtain ⟨s_b7, s_bp⟩ := hSw; have L_b7 := Lay.c6 s_b7; have L_bp := Lay.c1 s_bp;  go_simp <;> with_reducible rfl))) | (refine Reg.tkB 24 (Reg.get rfl) hHeld ?_)
            try simp only [Act.put, List.setIfInBounds_toArray, List.set_cons_zero, List.set_cons_succ]
            refine wpAnyH_done (by kernel_rfl) ?_ _
            go_wp2_with fail
            go_meet
            exact ⟨rfl, D⟩
          · obtain rfl : gt = z := hgd
            have L_b7 := Lay.f6 b7
            have L_bp := Lay.f1 bp
            have L_bg := Lay.f3 bg
            refine wp_region_held_drew (S := (fun w' => Bk.Blk w' (w3.heap.size) 43 #[.int .i64 fr, .int .i64 sl, .int .i64 dc, .int .i64 pe, .bool gt, .int .i64 ti] ∧ Bk.Blk w' (w1.heap.size + 1) 39 #[.slice Ap M cp] ∧ Bk.Blk w' (w1.heap.size) 27 #[.int .i64 pe, .slice Ag N cg, .int .i64 lo])) (by kernel_rfl) ?_ (fun hHeld => ?_)
            · (try dsimp only); (refine ⟨?_, ?_, ?_⟩ <;> exact Bk.sv)
            first | (refine Reg.tkC 0 ?_ (Reg.get rfl) ?_ hHeld ?_; rotate_left 1; (focus (intro wq hSw; (try dsimp only at hSw); obtain ⟨s_b7, s_bp, s_bg⟩ := hSw; have L_b7 := Lay.c6 s_b7; have L_bp := Lay.c1 s_bp; have L_bg := Lay.c3 s_bg;  go_simp <;> with_reducible rfl))) | (refine Reg.tkB 0 (Reg.get rfl) hHeld ?_)
            try simp only [Act.put, List.setIfInBounds_toArray, List.set_cons_zero, List.set_cons_succ]
            first | (refine Reg.tkC 1 ?_ (Reg.get rfl) ?_ hHeld ?_; rotate_left 1; (focus (intro wq hSw; (try dsimp only at hSw); obtain ⟨s_b7, s_bp, s_bg⟩ := hSw; have L_b7 := Lay.c6 s_b7; have L_bp := Lay.c1 s_bp; have L_bg := Lay.c3 s_bg;  go_simp <;> with_reducible rfl))) | (refine Reg.tkB 1 (Reg.get rfl) hHeld ?_)
            try simp only [Act.put, List.setIfInBounds_toArray, List.set_cons_zero, List.set_cons_succ]
            first | (refine Reg.tkC 2 ?_ (Reg.get rfl) ?_ hHeld ?_; rotate_left 1; (focus (intro wq hSw; (try dsimp only at hSw); obtain ⟨s_b7, s_bp, s_bg⟩ := hSw; have L_b7 := Lay.c6 s_b7; have L_bp := Lay.c1 s_bp; have L_bg := Lay.c3 s_bg;  go_simp <;> with_reducible rfl))) | (refine Reg.tkB 2 (Reg.get rfl) hHeld ?_)
            try simp only [Act.put, List.setIfInBounds_toArray, List.set_cons_zero, List.set_cons_succ]
            first | ((refine Reg.tkB 3 (Reg.get rfl) hHeld ?_)) | (refine wpAnyH_ready (rs := [3]) (by kernel_rfl) (by simp) ?_; refine AllReadyH.cons (Reg.get rfl) (fun K hK => ?_) AllReadyH.nil; clear hHeld; go_simp; ((go_at_call 28; refine (validB_impl fr sl dc pe gt ti _).mono ?_; rintro x w10 hsay; obtain ⟨rfl, hb0⟩ := says_true hsay hvb.out; clear hsay; (first | replace HPB := Lib.hid (HPB.out.below hb0) | replace HPB := Lib.hid (HPB.out.drew.below hb0)); (first | replace D := stepB D hb0 D.size | replace D := stepB D.drew hb0 D.drew.size); replace b7 : Bk.Blk w10 (w3.heap.size) 43 #[.int .i64 fr, .int .i64 sl, .int .i64 dc, .int .i64 pe, .bool gt, .int .i64 ti] := Bk.Blk.under hb0 (by exact Bk.sv); replace bp : Bk.Blk w10 (w1.heap.size + 1) 39 #[.slice Ap M cp] := Bk.Blk.under hb0 (by exact Bk.sv); replace bg : Bk.Blk w10 (w1.heap.size) 27 #[.int .i64 pe, .slice Ag N cg, .int .i64 lo] := Bk.Blk.under hb0 (by exact Bk.sv); replace B : Below w.heap.size w w10 := Below.trans (by go_grown) (hb0.mono (by first | omega | (simp [Bk.size_set]; done) | (simp [Bk.size_set]; omega))); have z10 := hb0.size; (try simp only [World.size_alloc, Bk.size_set, World.size_drew, World.drewN] at z10); clear hb0; have L_b7 := Lay.f6 b7; have L_bp := Lay.f1 bp; have L_bg := Lay.f3 bg)); refine hK.out _ _ ?_ (fun hHeld => ?_); ((try dsimp only); (refine ⟨?_, ?_, ?_⟩ <;> exact Bk.sv)); clear hK K)
            try simp only [Act.put, List.setIfInBounds_toArray, List.set_cons_zero, List.set_cons_succ]
            first | (refine Reg.tkC 4 ?_ (Reg.get rfl) ?_ hHeld ?_; rotate_left 1; (focus (intro wq hSw; (try dsimp only at hSw); obtain ⟨s_b7, s_bp, s_bg⟩ := hSw; have L_b7 := Lay.c6 s_b7; have L_bp := Lay.c1 s_bp; have L_bg := Lay.c3 s_bg;  go_simp <;> with_reducible rfl))) | (refine Reg.tkB 4 (Reg.get rfl) hHeld ?_)
            try simp only [Act.put, List.setIfInBounds_toArray, List.set_cons_zero, List.set_cons_succ]
            first | (refine Reg.tkC 5 ?_ (Reg.get rfl) ?_ hHeld ?_; rotate_left 1; (focus (intro wq hSw; (try dsimp only at hSw); obtain ⟨s_b7, s_bp, s_bg⟩ := hSw; have L_b7 := Lay.c6 s_b7; have L_bp := Lay.c1 s_bp; have L_bg := Lay.c3 s_bg;  go_simp <;> with_reducible rfl))) | (refine Reg.tkB 5 (Reg.get rfl) hHeld ?_)
            try simp only [Act.put, List.setIfInBounds_toArray, List.set_cons_zero, List.set_cons_succ]
            first | (refine Reg.tkC 6 ?_ (Reg.get rfl) ?_ hHeld ?_; rotate_left 1; (focus (intro wq hSw; (try dsimp only at hSw); obtain ⟨s_b7, s_bp, s_bg⟩ := hSw; have L_b7 := Lay.c6 s_b7; have L_bp := Lay.c1 s_bp; have L_bg := Lay.c3 s_bg;  go_simp <;> with_reducible rfl))) | (refine Reg.tkB 6 (Reg.get rfl) hHeld ?_)
            try simp only [Act.put, List.setIfInBounds_toArray, List.set_cons_zero, List.set_cons_succ]
            first | (refine Reg.tkC 7 ?_ (Reg.get rfl) ?_ hHeld ?_; rotate_left 1; (focus (intro wq hSw; (try dsimp only at hSw); obtain ⟨s_b7, s_bp, s_bg⟩ := hSw; have L_b7 := Lay.c6 s_b7; have L_bp := Lay.c1 s_bp; have L_bg := Lay.c3 s_bg;  go_simp <;> with_reducible rfl))) | (refine Reg.tkB 7 (Reg.get rfl) hHeld ?_)
            try simp only [Act.put, List.setIfInBounds_toArray, List.set_cons_zero, List.set_cons_succ]
            first | (refine Reg.tkC 8 ?_ (Reg.get rfl) ?_ hHeld ?_; rotate_left 1; (focus (intro wq hSw; (try dsimp only at hSw); obtain ⟨s_b7, s_bp, s_bg⟩ := hSw; have L_b7 := Lay.c6 s_b7; have L_bp := Lay.c1 s_bp; have L_bg := Lay.c3 s_bg;  go_simp <;> with_reducible rfl))) | (refine Reg.tkB 8 (Reg.get rfl) hHeld ?_)
            try simp only [Act.put, List.setIfInBounds_toArray, List.set_cons_zero, List.set_cons_succ]
            first | ((refine Reg.tkB 9 (Reg.get rfl) hHeld ?_)) | (refine wpAnyH_ready (rs := [9]) (by kernel_rfl) (by simp) ?_; refine AllReadyH.cons (Reg.get rfl) (fun K hK => ?_) AllReadyH.nil; clear hHeld; go_simp; ((go_at_call 29; refine (tim_spec Ap M cp ks _ HPB.out).mono ?_; rintro x w11 ⟨rfl, hb0⟩; rw [HTI.out]; (first | replace D := stepB D hb0 D.size | replace D := stepB D.drew hb0 D.drew.size); replace b7 : Bk.Blk w11 (w3.heap.size) 43 #[.int .i64 fr, .int .i64 sl, .int .i64 dc, .int .i64 pe, .bool gt, .int .i64 ti] := Bk.Blk.under hb0 (by exact Bk.sv); replace bp : Bk.Blk w11 (w1.heap.size + 1) 39 #[.slice Ap M cp] := Bk.Blk.under hb0 (by exact Bk.sv); replace bg : Bk.Blk w11 (w1.heap.size) 27 #[.int .i64 pe, .slice Ag N cg, .int .i64 lo] := Bk.Blk.under hb0 (by exact Bk.sv); replace B : Below w.heap.size w w11 := Below.trans (by go_grown) (hb0.mono (by first | omega | (simp [Bk.size_set]; done) | (simp [Bk.size_set]; omega))); have z11 := hb0.size; (try simp only [World.size_alloc, Bk.size_set, World.size_drew, World.drewN] at z11); clear hb0; have L_b7 := Lay.f6 b7; have L_bp := Lay.f1 bp; have L_bg := Lay.f3 bg)); refine hK.out _ _ ?_ (fun hHeld => ?_); ((try dsimp only); (refine ⟨?_, ?_, ?_⟩ <;> exact Bk.sv)); clear hK K)
            try simp only [Act.put, List.setIfInBounds_toArray, List.set_cons_zero, List.set_cons_succ]
            first | (refine Reg.tkC 10 ?_ (Reg.get rfl) ?_ hHeld ?_; rotate_left 1; (focus (intro wq hSw; (try dsimp only at hSw); obtain ⟨s_b7, s_bp, s_bg⟩ := hSw; have L_b7 := Lay.c6 s_b7; have L_bp := Lay.c1 s_bp; have L_bg := Lay.c3 s_bg;  go_simp <;> with_reducible rfl))) | (refine Reg.tkB 10 (Reg.get rfl) hHeld ?_)
            try simp only [Act.put, List.setIfInBounds_toArray, List.set_cons_zero, List.set_cons_succ]
            first | (refine Reg.tkC 11 ?_ (Reg.get rfl) ?_ hHeld ?_; rotate_left 1; (focus (intro wq hSw; (try dsimp only at hSw); obtain ⟨s_b7, s_bp, s_bg⟩ := hSw; have L_b7 := Lay.c6 s_b7; have L_bp := Lay.c1 s_bp; have L_bg := Lay.c3 s_bg;  go_simp <;> with_reducible rfl))) | (refine Reg.tkB 11 (Reg.get rfl) hHeld ?_)
            try simp only [Act.put, List.setIfInBounds_toArray, List.set_cons_zero, List.set_cons_succ]
            first | (refine Reg.tkC 12 ?_ (Reg.get rfl) ?_ hHeld ?_; rotate_left 1; (focus (intro wq hSw; (try dsimp only at hSw); obtain ⟨s_b7, s_bp, s_bg⟩ := hSw; have L_b7 := Lay.c6 s_b7; have L_bp := Lay.c1 s_bp; have L_bg := Lay.c3 s_bg;  go_simp <;> with_reducible rfl))) | (refine Reg.tkB 12 (Reg.get rfl) hHeld ?_)
            try simp only [Act.put, List.setIfInBounds_toArray, List.set_cons_zero, List.set_cons_succ]
            first | (refine Reg.tkC 13 ?_ (Reg.get rfl) ?_ hHeld ?_; rotate_left 1; (focus (intro wq hSw; (try dsimp only at hSw); obtain ⟨s_b7, s_bp, s_bg⟩ := hSw; have L_b7 := Lay.c6 s_b7; have L_bp := Lay.c1 s_bp; have L_bg := Lay.c3 s_bg;  go_simp <;> with_reducible rfl))) | (refine Reg.tkB 13 (Reg.get rfl) hHeld ?_)
            try simp only [Act.put, List.setIfInBounds_toArray, List.set_cons_zero, List.set_cons_succ]
            first | (refine Reg.tkC 14 ?_ (Reg.get rfl) ?_ hHeld ?_; rotate_left 1; (focus (intro wq hSw; (try dsimp only at hSw); obtain ⟨s_b7, s_bp, s_bg⟩ := hSw; have L_b7 := Lay.c6 s_b7; have L_bp := Lay.c1 s_bp; have L_bg := Lay.c3 s_bg;  go_simp <;> with_reducible rfl))) | (refine Reg.tkB 14 (Reg.get rfl) hHeld ?_)
            try simp only [Act.put, List.setIfInBounds_toArray, List.set_cons_zero, List.set_cons_succ]
            first | (refine Reg.tkC 15 ?_ (Reg.get rfl) ?_ hHeld ?_; rotate_left 1; (focus (intro wq hSw; (try dsimp only at hSw); obtain ⟨s_b7, s_bp, s_bg⟩ := hSw; have L_b7 := Lay.c6 s_b7; have L_bp := Lay.c1 s_bp; have L_bg := Lay.c3 s_bg;  go_simp <;> with_reducible rfl))) | (refine Reg.tkB 15 (Reg.get rfl) hHeld ?_)
            try simp only [Act.put, List.setIfInBounds_toArray, List.set_cons_zero, List.set_cons_succ]
            first | (refine Reg.tkC 16 ?_ (Reg.get rfl) ?_ hHeld ?_; rotate_left 1; (focus (intro wq hSw; (try dsimp only at hSw); obtain ⟨s_b7, s_bp, s_bg⟩ := hSw; have L_b7 := Lay.c6 s_b7; have L_bp := Lay.c1 s_bp; have L_bg := Lay.c3 s_bg;  go_simp <;> with_reducible rfl))) | (refine Reg.tkB 16 (Reg.get rfl) hHeld ?_)
            try simp only [Act.put, List.setIfInBounds_toArray, List.set_cons_zero, List.set_cons_succ]
            first | (refine Reg.tkC 17 ?_ (Reg.get rfl) ?_ hHeld ?_; rotate_left 1; (focus (intro wq hSw; (try dsimp only at hSw); obtain ⟨s_b7, s_bp, s_bg⟩ := hSw; have L_b7 := Lay.c6 s_b7; have L_bp := Lay.c1 s_bp; have L_bg := Lay.c3 s_bg;  go_simp <;> with_reducible rfl))) | (refine Reg.tkB 17 (Reg.get rfl) hHeld ?_)
            try simp only [Act.put, List.setIfInBounds_toArray, List.set_cons_zero, List.set_cons_succ]
            first | (refine Reg.tkC 18 ?_ (Reg.get rfl) ?_ hHeld ?_; rotate_left 1; (focus (intro wq hSw; (try dsimp only at hSw); obtain ⟨s_b7, s_bp, s_bg⟩ := hSw; have L_b7 := Lay.c6 s_b7; have L_bp := Lay.c1 s_bp; have L_bg := Lay.c3 s_bg;  go_simp <;> with_reducible rfl))) | (refine Reg.tkB 18 (Reg.get rfl) hHeld ?_)
            try simp only [Act.put, List.setIfInBounds_toArray, List.set_cons_zero, List.set_cons_succ]
            first | (refine Reg.tkC 19 ?_ (Reg.get rfl) ?_ hHeld ?_; rotate_left 1; (focus (intro wq hSw; (try dsimp only at hSw); obtain ⟨s_b7, s_bp, s_bg⟩ := hSw; have L_b7 := Lay.c6 s_b7; have L_bp := Lay.c1 s_bp; have L_bg := Lay.c3 s_bg;  go_simp <;> with_reducible rfl))) | (refine Reg.tkB 19 (Reg.get rfl) hHeld ?_)
            try simp only [Act.put, List.setIfInBounds_toArray, List.set_cons_zero, List.set_cons_succ]
            first | (refine Reg.tkC 20 ?_ (Reg.get rfl) ?_ hHeld ?_; rotate_left 1; (focus (intro wq hSw; (try dsimp only at hSw); obtain ⟨s_b7, s_bp, s_bg⟩ := hSw; have L_b7 := Lay.c6 s_b7; have L_bp := Lay.c1 s_bp; have L_bg := Lay.c3 s_bg;  go_simp <;> with_reducible rfl))) | (refine Reg.tkB 20 (Reg.get rfl) hHeld ?_)
            try simp only [Act.put, List.setIfInBounds_toArray, List.set_cons_zero, List.set_cons_succ]
            first | (refine Reg.tkC 21 ?_ (Reg.get rfl) ?_ hHeld ?_; rotate_left 1; (focus (intro wq hSw; (try dsimp only at hSw); obtain ⟨s_b7, s_bp, s_bg⟩ := hSw; have L_b7 := Lay.c6 s_b7; have L_bp := Lay.c1 s_bp; have L_bg := Lay.c3 s_bg;  go_simp <;> with_reducible rfl))) | (refine Reg.tkB 21 (Reg.get rfl) hHeld ?_)
            try simp only [Act.put, List.setIfInBounds_toArray, List.set_cons_zero, List.set_cons_succ]
            first | (refine Reg.tkC 22 ?_ (Reg.get rfl) ?_ hHeld ?_; rotate_left 1; (focus (intro wq hSw; (try dsimp only at hSw); obtain ⟨s_b7, s_bp, s_bg⟩ := hSw; have L_b7 := Lay.c6 s_b7; have L_bp := Lay.c1 s_bp; have L_bg := Lay.c3 s_bg;  go_simp <;> with_reducible rfl))) | (refine Reg.tkB 22 (Reg.get rfl) hHeld ?_)
            try simp only [Act.put, List.setIfInBounds_toArray, List.set_cons_zero, List.set_cons_succ]
            first | (refine Reg.tkC 23 ?_ (Reg.get rfl) ?_ hHeld ?_; rotate_left 1; (focus (intro wq hSw; (try dsimp only at hSw); obtain ⟨s_b7, s_bp, s_bg⟩ := hSw; have L_b7 := Lay.c6 s_b7; have L_bp := Lay.c1 s_bp; have L_bg := Lay.c3 s_bg;  go_simp <;> with_reducible rfl))) | (refine Reg.tkB 23 (Reg.get rfl) hHeld ?_)
            try simp only [Act.put, List.setIfInBounds_toArray, List.set_cons_zero, List.set_cons_succ]
            first | (refine Reg.tkC 24 ?_ (Reg.get rfl) ?_ hHeld ?_; rotate_left 1; (focus (intro wq hSw; (try dsimp only at hSw); obtain ⟨s_b7, s_bp, s_bg⟩ := hSw; have L_b7 := Lay.c6 s_b7; have L_bp := Lay.c1 s_bp; have L_bg := Lay.c3 s_bg;  go_simp <;> with_reducible rfl))) | (refine Reg.tkB 24 (Reg.get rfl) hHeld ?_)
            try simp only [Act.put, List.setIfInBounds_toArray, List.set_cons_zero, List.set_cons_succ]
            refine wpAnyH_done (by kernel_rfl) ?_ _
            go_wp2_with fail
            go_meet
            exact ⟨rfl, D⟩
      case rest =>
        obtain ⟨w12, hw12⟩ : ∃ W, W = wc := ⟨_, rfl⟩
        subst hw12
        obtain ⟨rfl, hb0⟩ := hcut
        replace HSS := Lib.hid (HSS.out.below hb0)
        replace HX := Lib.hid (HX.out.below hb0)
        replace HY := Lib.hid (HY.out.below hb0)
        clear b7 bp HPB HFO HOK HGD HTI HGT hzz htt
        replace bg : Bk.Blk w12 (w1.heap.size) 27 #[.int .i64 pe, .slice Ag N cg, .int .i64 lo] := Bk.Blk.under hb0 (by exact Bk.sv)
        replace b11 : Bk.Blk w12 (w7.heap.size) 27 #[.int .i64 pe, .slice Ax gn cx, .int .i64 lo] := Bk.Blk.under hb0 (by exact Bk.sv)
        replace B : Below w.heap.size w w12 := Below.trans (by go_grown) (hb0.mono (by first | omega | (simp [Bk.size_set]; done) | (simp [Bk.size_set]; omega)))
        have z12 := hb0.size
        (try simp only [World.size_alloc, Bk.size_set, World.size_drew, World.drewN] at z12)
        clear hb0
        have hvt := Lib.hid (HVG.out.1 (by simp))
        clear HVG HDC
        go_upto_region 14 with fail
        go_cut [123] (fun v wx => v = .bool false ∧ Below w12.heap.size w12 wx)
        case first =>
          cases dl
          · obtain ⟨rfl, rfl, rfl, rfl⟩ : N = gn ∧ xss = gs ∧ 0 = ln ∧ [] = ls := by
              rcases HCA.out with ⟨_, h, _⟩ | ⟨_, h⟩
              · rw [hdl] at h; cases h
              · exact h
            have L_bg := Lay.f3 bg
            have L_b11 := Lay.f3 b11
            go_wp2_with fail
            clear L_bg L_b11
            refine (eqG_same pe lo Ax N cx xss Ag cg _ HX.out HSS.out).mono ?_
            rintro x w13 ⟨rfl, hb0⟩
            go_wp2_with fail
            go_meet
            exact ⟨rfl, hb0⟩
          · obtain ⟨rfl, rfl, rfl, rfl⟩ : 0 = gn ∧ [] = gs ∧ N = ln ∧ xss = ls := by
              rcases HCA.out with ⟨_, _, h⟩ | ⟨h, _⟩
              · exact h
              · rcases h with h | h
                · cases h
                · rw [hdl] at h; cases h
            have L_bg := Lay.f3 bg
            have L_b11 := Lay.f3 b11
            go_wp2_with fail
            clear L_bg L_b11
            refine (eqSS_same Bl N dz xss Ag N cg xss _ HY.out HSS.out).mono ?_
            rintro x w13 ⟨rfl, hb0⟩
            rw [decide_eq_true rfl]
            go_wp2_with fail
            go_meet
            exact ⟨rfl, hb0⟩
        case rest =>
          obtain ⟨w14, hw14⟩ : ∃ W, W = wc := ⟨_, rfl⟩
          subst hw14
          obtain ⟨rfl, hb0⟩ := hcut
          replace HSS := Lib.hid (HSS.out.below hb0)
          clear b11 HX HY HCA
          replace bg : Bk.Blk w14 (w1.heap.size) 27 #[.int .i64 pe, .slice Ag N cg, .int .i64 lo] := Bk.Blk.under hb0 (by exact Bk.sv)
          replace B : Below w.heap.size w w14 := Below.trans (by go_grown) (hb0.mono (by first | omega | (simp [Bk.size_set]; done) | (simp [Bk.size_set]; omega)))
          have z14 := hb0.size
          (try simp only [World.size_alloc, Bk.size_set, World.size_drew, World.drewN] at z14)
          clear hb0
          have L_bg := Lay.f3 bg
          go_wp2_with fail
          clear L_bg
          generalize hW : World.alloc _ _ = w15
          have RB := Lib.hid (show Rd w15 1 (some ⟨w14.heap.size, 0, none⟩) 1 1 (([9] : List Int).map (Value.int .u8)) from rd_oneA hW)
          replace HSS := Lib.hid (HSS.out.below (show Below w14.heap.size w14 w15 from by rw [← hW]; go_grown))
          replace bg : Bk.Blk w15 (w1.heap.size) 27 #[.int .i64 pe, .slice Ag N cg, .int .i64 lo] := (by rw [← hW]; exact Bk.sv)
          replace B : Below w.heap.size w w15 := (by rw [← hW]; go_grown)
          have z15 : w15.heap.size = _ := congrArg (fun W : World => W.heap.size) hW.symm
          (try simp only [World.size_alloc, Bk.size_set, World.size_drew, World.drewN] at z15)
          clear hW
          refine (keepG_gt pe lo Ag N cg xss _ 1 _ hvt.out HXL.out (by omega) HSH.out HSS.out RB.out).mono ?_
          rintro x w16 ⟨lo2, n2, yss, A2, c2, ⟨hv2, hsum, h6, hl0, hl9⟩, hr2, rfl, hb0⟩
          have HR2 := Lib.hid hr2
          have HV2 := Lib.hid hv2
          have hlo0 := hvt.out.1.2.2
          have hq : ((n2 : Int) + lo2 == (N : Int) + lo + 1) = true := by rw [beq_iff_eq]; exact hsum
          clear hr2 hv2 RB hsum
          replace bg : Bk.Blk w16 (w1.heap.size) 27 #[.int .i64 pe, .slice Ag N cg, .int .i64 lo] := Bk.Blk.under hb0 (by exact Bk.sv)
          replace B : Below w.heap.size w w16 := Below.trans (by go_grown) (hb0.mono (by first | omega | (simp [Bk.size_set]; done) | (simp [Bk.size_set]; omega)))
          have z16 := hb0.size
          (try simp only [World.size_alloc, Bk.size_set, World.size_drew, World.drewN] at z16)
          clear hb0
          have L_bg := Lay.f3 bg
          go_wp2_with fail
          clear L_bg
          generalize hW : World.alloc _ _ = w17
          replace HR2 := Lib.hid (HR2.out.below (show Below w16.heap.size w16 w17 from by rw [← hW]; go_grown))
          replace B : Below w.heap.size w w17 := (by rw [← hW]; go_grown)
          have z17 : w17.heap.size = _ := congrArg (fun W : World => W.heap.size) hW.symm
          (try simp only [World.size_alloc, Bk.size_set, World.size_drew, World.drewN] at z17)
          clear hW
          clear hq
          refine (validGb_impl pe lo2 A2 n2 c2 yss _ HR2.out).mono ?_
          rintro x w18 hsay
          obtain ⟨rfl, hb0⟩ := says_true hsay HV2.out
          clear hsay
          replace B : Below w.heap.size w w18 := Below.trans (by go_grown) (hb0.mono (by first | omega | (simp [Bk.size_set]; done) | (simp [Bk.size_set]; omega)))
          have z18 := hb0.size
          (try simp only [World.size_alloc, Bk.size_set, World.size_drew, World.drewN] at z18)
          clear hb0
          go_wp2_with fail
          refine (at_any A n c zs 0 _ (HR.out.below B) HB.out hn (by omega) (by omega)).mono ?_
          rintro e w' ⟨y, _, rfl, rfl⟩
          go_wp2_with fail
          refine (newG_any y _).mono ?_
          rintro x w19 ⟨q, Bq, hq1, rfl, hb0⟩
          replace B : Below w.heap.size w w19 := Below.trans (by go_grown) (hb0.mono (by first | omega | (simp [Bk.size_set]; done) | (simp [Bk.size_set]; omega)))
          have z19 := hb0.size
          (try simp only [World.size_alloc, Bk.size_set, World.size_drew, World.drewN] at z19)
          clear hb0
          go_wp2_with fail
          refine (validGb_impl q 0 Bq 0 0 [] _ (rdNil _ _)).mono ?_
          rintro x w20 hsay
          obtain ⟨rfl, hb0⟩ := says_true hsay ⟨⟨hq1, by omega, Int.le_refl _⟩, fun i hi => absurd hi (Nat.not_lt_zero _)⟩
          clear hsay
          replace B : Below w.heap.size w w20 := Below.trans (by go_grown) (hb0.mono (by first | omega | (simp [Bk.size_set]; done) | (simp [Bk.size_set]; omega)))
          have z20 := hb0.size
          (try simp only [World.size_alloc, Bk.size_set, World.size_drew, World.drewN] at z20)
          clear hb0
          go_wp2
          go_ret
          exact ⟨rfl, B⟩
end Go.Proofs.Ythdieeaegplnmaa.Pb
