/- Marks laid into byte slices and into protected frames; what the laws read back; two rows in ranges of their own. -/
import Derived.Test.YtgbmbnofnhhblaaDoorSlices
import Derived.Test.YtgbmbnofnhhblaaDoorOwn
import Derived.Test.YtgbmbnofnhhblaaDoorReg
import Derived.Test.YtgbmbnofnhhblaaDoorBlk
import Derived.Test.YtgbmbnofnhhblaaDoorLay
namespace Go.Proofs.YtgbmbnofnhhblaaDoor.SS
open Go.RowKit
open Go.Proofs.YtgbmbnofnhhblaaDoor.Num Go.Proofs.YtgbmbnofnhhblaaDoor.Mem Go.Proofs.YtgbmbnofnhhblaaDoor.Hsh Go.Proofs.YtgbmbnofnhhblaaDoor.Sls Go.Proofs.YtgbmbnofnhhblaaDoor.Own
set_option linter.unusedSimpArgs false
/-- N marks from k on, as bytes -/
def bmarks (k : Int) (N : Nat) : List Int := _root_.List.map (fun (i : Nat) => (k + (i : Int)) % 256) (_root_.List.range N)
theorem bmarks_len (k : Int) (N : Nat) : (bmarks k N).length = N := by simp [bmarks]
theorem bmarks_at (k : Int) (N j : Nat) (h : j < N) : (bmarks k N).getD j 0 = (k + (j : Int)) % 256 := by simp [bmarks, List.getD, h]
theorem ownsRow_succ' {w : World} {base : Nat} {e : TypeId} {size n : Nat} {v : Value} {xs : List Value} (h : w.ownsRow base e size v n xs) (hn : 0 < n) : ∃ g cap, v = .slice (some ⟨g, 0, none⟩) n cap := by
  obtain ⟨_, h2⟩ := h
  rcases h2 with ⟨_, h0⟩ | ⟨g, cap, _, hv, _⟩
  · omega
  · exact ⟨g, cap, hv⟩
/-- only the slice's own block has turned -/
def Only (A : Option Addr) (w w' : World) : Prop := w.grownBy w' (blk A)
theorem only_set {A : Option Addr} {w w' : World} {g : Nat} (h : Only A w w') (hA : blk A = some g) (o : Nat) (u : Value) : Only A w (w'.setCell ⟨g, o, none⟩ u) :=
  ⟨h.os, h.tape, h.output, by simpa [World.setCell] using h.size, fun k hk hne => (Below.heap_setCell w' _ u k (fun e => hne (by rw [hA, e]))).trans (h.block k hk hne)⟩
set_option maxHeartbeats 1000000 in
theorem markB_any (A : Option Addr) (n c : Nat) (xs : List Value) (k : Int) (lo hi : Nat) (w : World) (h : Own w lo hi 5 1 A n c xs) (k0 : 0 ≤ k) (k1 : k ≤ 16777216) (hn : n ≤ 2097152) :
    Calls Tryd.prog 15 #[.slice A n c, .int .i64 k] w fun x w' => x = .returned (.int .i64 (k + (n : Int))) ∧ Own w' lo hi 5 1 A n c ((bmarks k n).map (Value.int .u8)) ∧ Only A w w' := by
  have hl := Lib.hid (show xs.length = n by have := h.1.1; simpa using this)
  have HO := Lib.hid h
  clear h
  go_enter Tryd.func15, Tryd.ntmps15
  go_wp2
  go_loopw [1, 5] (fun v1 v5 wr => ∃ j : Nat, j ≤ n ∧ v1 = .int .i64 (k + (j : Int)) ∧ v5 = .int .i64 (j : Int) ∧ Own wr lo hi 5 1 A n c (((bmarks k n).take j).map (Value.int .u8) ++ xs.drop j) ∧ Only A w wr) (fun _ v5 _ => n - (intOf v5).toNat)
  case atStart => exact ⟨0, Nat.zero_le _, by go_num, rfl, HO.out, World.grownBy.refl w _⟩
  case round =>
    obtain ⟨j, hj, rfl, rfl, hown, ht⟩ := hrel
    by_cases hlt : j < n
    · obtain ⟨g, cap, hv⟩ := ownsRow_succ' hown.1 (by omega)
      simp only [Value.slice.injEq, true_and] at hv
      obtain ⟨rfl, rfl⟩ := hv
      have HS := Lib.hid (row_step (k := j) (zs := bmarks k n) (Z := xs) (f := Value.int .u8) (by rw [bmarks_len]; omega) (by rw [hl.out]; omega))
      rw [bmarks_at _ _ _ hlt] at HS
      have hK0 : 0 ≤ k + (j : Int) := by omega
      have hK1 : k + (j : Int) ≤ 33554432 := by omega
      have HE := Lib.hid (show k + ((j : Int) + 1) = k + (j : Int) + 1 by omega)
      generalize k + (j : Int) = K at *
      have hfr := hown.1.frozenAt
      have hlen := hown.1.1
      obtain ⟨u0, d0⟩ : ∃ u, wr.cell? ⟨g, j, none⟩ = some u := ⟨_, by rw [hown.1.cellAt j (by omega), List.getElem?_eq_getElem (by omega)]⟩
      have HT := Lib.hid ((hown.1.stored j (.int .u8 (K % 256))).1)
      have HB := Lib.hid (only_set ht rfl j (.int .u8 (K % 256)))
      have HA := Lib.hid hown.2
      clear hown ht hlen
      go_wp2
      go_roundw
      case rel => exact ⟨j + 1, by omega, by rw [show ((j + 1 : Nat) : Int) = (j : Int) + 1 from rfl, HE.out], by go_num, ⟨by rw [← HS.out]; exact HT.out, HA.out⟩, HB.out⟩
      case measure => simp [intOf]; omega
    · obtain rfl : j = n := by omega
      have HX := Lib.hid (show ((bmarks k j).take j).map (Value.int .u8) ++ xs.drop j = (bmarks k j).map (Value.int .u8) by rw [List.take_of_length_le (by rw [bmarks_len]; exact Nat.le_refl _), List.drop_of_length_le (by rw [hl.out]; exact Nat.le_refl _), List.append_nil])
      have HW := Lib.hid hown
      clear hown
      go_wp2
      go_ret
      exact ⟨rfl, by have h := HW.out; rw [HX.out] at h; exact h, ht⟩
set_option maxHeartbeats 1000000 in
theorem heldB_any (A : Option Addr) (n c : Nat) (k : Int) (w : World) (h : Rd w 1 A n c ((bmarks k n).map (Value.int .u8))) (k0 : 0 ≤ k) (k1 : k ≤ 16777216) (hn : n ≤ 2097152) :
    Calls Tryd.prog 44 #[.slice A n c, .int .i64 k] w fun x w' => x = .returned (.int .i64 (k + (n : Int))) ∧ w = w' := by
  have HR := Lib.hid h
  clear h
  go_enter Tryd.func44, Tryd.ntmps44
  go_wp2
  go_loop [1, 5] (fun v1 v5 => ∃ j : Nat, j ≤ n ∧ v1 = .int .i64 (k + (j : Int)) ∧ v5 = .int .i64 (j : Int)) (fun _ v5 => n - (intOf v5).toNat)
  case atStart => exact ⟨0, Nat.zero_le _, by go_num, rfl⟩
  case round =>
    obtain ⟨j, hj, rfl, rfl⟩ := hrel
    by_cases hlt : j < n
    · obtain ⟨g, o, rfl, hg, c0⟩ := HR.out.int_at hlt
      rw [bmarks_at _ _ _ hlt] at c0
      have hK0 : 0 ≤ k + (j : Int) := by omega
      have hK1 : k + (j : Int) ≤ 33554432 := by omega
      have HE := Lib.hid (show k + ((j : Int) + 1) = k + (j : Int) + 1 by omega)
      generalize k + (j : Int) = K at *
      go_wp2
      go_round
      case rel => exact ⟨j + 1, by omega, by rw [show ((j + 1 : Nat) : Int) = (j : Int) + 1 from rfl, HE.out], by go_num⟩
      case measure => simp [intOf]; omega
    · obtain rfl : j = n := by omega
      go_wp2
      go_ret
      exact ⟨rfl, rfl⟩
theorem two_tight {w : World} {base n c m d : Nat} {e e' : TypeId} {sz sz' : Nat} {A B : Option Addr} {xs ys : List Value} (h : w.ownsRow base e sz (.slice A n c) n xs) (h' : w.ownsRow base e' sz' (.slice B m d) m ys) (hne : e ≠ e') (hb : base ≤ w.heap.size) :
    ∃ lo hi lo' hi', Own w lo hi e sz A n c xs ∧ Own w lo' hi' e' sz' B m d ys ∧ (base ≤ lo ∧ lo ≤ hi ∧ hi ≤ w.heap.size) ∧ (base ≤ lo' ∧ lo' ≤ hi' ∧ hi' ≤ w.heap.size) ∧ (hi ≤ lo' ∨ hi' ≤ lo) := by
  obtain ⟨h1, h2⟩ := h
  obtain ⟨k1, k2⟩ := h'
  rcases h2 with ⟨hv, hn⟩ | ⟨g, cap, cur, hv, hg, hh, hr⟩
  · rcases k2 with ⟨kv, km⟩ | ⟨q, cap', cur', kv, kg, kh, kr⟩
    · refine ⟨base, base, base, base, ⟨⟨h1, .inl ⟨hv, hn⟩⟩, ?_⟩, ⟨⟨k1, .inl ⟨kv, km⟩⟩, ?_⟩, by omega, by omega, by omega⟩
      · intro g hg; simp only [Value.slice.injEq] at hv; rw [hv.1] at hg; cases hg
      · intro g hg; simp only [Value.slice.injEq] at kv; rw [kv.1] at hg; cases hg
    · have hq := (Array.getElem?_eq_some_iff.1 kh).1
      refine ⟨base, base, q, q + 1, ⟨⟨h1, .inl ⟨hv, hn⟩⟩, ?_⟩, ⟨⟨k1, .inr ⟨q, cap', cur', kv, Nat.le_refl _, kh, kr⟩⟩, ?_⟩, by omega, by omega, by omega⟩
      · intro g hg; simp only [Value.slice.injEq] at hv; rw [hv.1] at hg; cases hg
      · intro g hg; simp only [Value.slice.injEq] at kv; rw [kv.1] at hg; simp [blk] at hg; omega
  · have hg2 := (Array.getElem?_eq_some_iff.1 hh).1
    rcases k2 with ⟨kv, km⟩ | ⟨q, cap', cur', kv, kg, kh, kr⟩
    · refine ⟨g, g + 1, base, base, ⟨⟨h1, .inr ⟨g, cap, cur, hv, Nat.le_refl _, hh, hr⟩⟩, ?_⟩, ⟨⟨k1, .inl ⟨kv, km⟩⟩, ?_⟩, by omega, by omega, by omega⟩
      · intro g hg; simp only [Value.slice.injEq] at hv; rw [hv.1] at hg; simp [blk] at hg; omega
      · intro g hg; simp only [Value.slice.injEq] at kv; rw [kv.1] at hg; cases hg
    · have hq := (Array.getElem?_eq_some_iff.1 kh).1
      have hgq : g ≠ q := by
        rintro rfl
        rw [hh] at kh
        simp only [Option.some.injEq, Obj.cells.injEq] at kh
        exact hne kh.2.1
      refine ⟨g, g + 1, q, q + 1, ⟨⟨h1, .inr ⟨g, cap, cur, hv, Nat.le_refl _, hh, hr⟩⟩, ?_⟩, ⟨⟨k1, .inr ⟨q, cap', cur', kv, Nat.le_refl _, kh, kr⟩⟩, ?_⟩, by omega, by omega, by omega⟩
      · intro g hg; simp only [Value.slice.injEq] at hv; rw [hv.1] at hg; simp [blk] at hg; omega
      · intro g hg; simp only [Value.slice.injEq] at kv; rw [kv.1] at hg; simp [blk] at hg; omega
theorem turned_only {w w' : World} {lo hi n c : Nat} {e : TypeId} {sz : Nat} {A : Option Addr} {xs : List Value} (h : Own w lo hi e sz A n c xs) (hg : w.grownBy w' (blk A)) : Turned lo hi w w' :=
  (Turned.refl lo hi w).grown hg (fun g hA => ⟨(blk_of_own h.1 g hA).1, h.2 g hA⟩)
theorem blk_turned {w w' : World} {lo hi g : Nat} {t : TypeId} {cs : Array Value} (h : Bk.Blk w g t cs) (ht : Turned lo hi w w') (hd : g < lo ∨ hi ≤ g) : Bk.Blk w' g t cs := (ht.block g h.lt hd).trans h
theorem markPf_any (pc mac : Int) (A : Option Addr) (n c : Nat) (xs : List Value) (k : Int) (lo hi : Nat) (w : World) (h : Own w lo hi 5 1 A n c xs) (k0 : 0 ≤ k) (k1 : k ≤ 16777216) (hn : n ≤ 2097152) (hh : hi ≤ w.heap.size) :
    Calls Tryd.prog 16 #[.agg #[.int .i64 pc, .slice A n c, .int .i64 mac], .int .i64 k] w fun x w' => x = .returned (.int .i64 (k + (n : Int))) ∧ Own w' lo hi 5 1 A n c ((bmarks k n).map (Value.int .u8)) ∧ Turned lo hi w w' := by
  have HO := Lib.hid h
  have hK0 : 0 ≤ k + (n : Int) := by omega
  clear h
  go_enter Tryd.func16, Tryd.ntmps16
  go_wp2_with fail
  have HO1 := Lib.hid (HO.out.below ((Below.refl w.heap.size w).alloc (Nat.le_refl _) (.cells #[.int .i64 pc, .slice A n c, .int .i64 mac] 29)) hh)
  refine (markB_any A n c xs k lo hi _ HO1.out k0 k1 hn).mono ?_
  rintro x w1 ⟨rfl, ho, hon⟩
  have ht := Lib.hid (Turned.trans (Turned.of_below ((Below.refl w.heap.size w).alloc (Nat.le_refl _) _) lo hi) (turned_only HO1.out hon))
  have H1 := Lib.hid ho
  clear ho hon
  go_wp2
  go_ret
  exact ⟨rfl, H1.out, ht.out⟩
theorem heldPf_any (pc mac : Int) (A : Option Addr) (n c : Nat) (k : Int) (w : World) (h : Rd w 1 A n c ((bmarks k n).map (Value.int .u8))) (k0 : 0 ≤ k) (k1 : k ≤ 16777216) (hn : n ≤ 2097152) :
    Calls Tryd.prog 18 #[.agg #[.int .i64 pc, .slice A n c, .int .i64 mac], .int .i64 k] w fun x w' => x = .returned (.int .i64 (k + (n : Int))) ∧ Below w.heap.size w w' := by
  have HR := Lib.hid h
  have hK0 : 0 ≤ k + (n : Int) := by omega
  have HE := Lib.hid (fun w h => heldB_any A n c k w h k0 k1 hn)
  clear h
  generalize k + (n : Int) = K at *
  go_enter Tryd.func18, Tryd.ntmps18
  go_wp2_with fail
  refine (HE.out _ (HR.out.alloc _)).mono ?_
  rintro x w1 ⟨rfl, rfl⟩
  go_wp2
  go_ret
  exact ⟨rfl, by go_grown⟩
theorem eqPf_same (pc mac : Int) (A : Option Addr) (n c : Nat) (B : Option Addr) (d : Nat) (zs : List Int) (w : World) (hx : Rd w 1 A n c (zs.map (Value.int .u8))) (hy : Rd w 1 B n d (zs.map (Value.int .u8))) :
    Calls Tryd.prog 12 #[.agg #[.int .i64 pc, .slice A n c, .int .i64 mac], .agg #[.int .i64 pc, .slice B n d, .int .i64 mac]] w fun x w' => x = .returned (.bool true) ∧ Below w.heap.size w w' := by
  have HX := Lib.hid hx
  have HY := Lib.hid hy
  clear hx hy
  go_enter Tryd.func12, Tryd.ntmps12
  go_wp2_with fail
  generalize hW : World.alloc (w.alloc _) _ = w0
  have HX0 := Lib.hid (show Rd w0 1 A n c (zs.map (Value.int .u8)) by rw [← hW]; exact (HX.out.alloc _).alloc _)
  have HY0 := Lib.hid (show Rd w0 1 B n d (zs.map (Value.int .u8)) by rw [← hW]; exact (HY.out.alloc _).alloc _)
  have B0 : Below w.heap.size w w0 := (by rw [← hW]; go_grown)
  have z0 := B0.size
  have ba : Bk.Blk w0 w.heap.size 29 #[.int .i64 pc, .slice A n c, .int .i64 mac] := by rw [← hW]; exact Bk.Blk.alloc (Bk.Blk.newAt rfl _ _) _
  have bb : Bk.Blk w0 (w.heap.size + 1) 29 #[.int .i64 pc, .slice B n d, .int .i64 mac] := by rw [← hW]; exact Bk.Blk.newAt (by simp) _ _
  clear hW
  refine (eqByteS_laws A n c zs B n d zs _ HX0.out HY0.out).mono ?_
  rintro x w1 ⟨rfl, hb⟩
  rw [decide_eq_true rfl]
  replace ba := Bk.Blk.under hb ba
  replace bb := Bk.Blk.under hb bb
  have B1 := stepB B0 hb B0.size
  have L_ba := Lay.f3 ba
  have L_bb := Lay.f3 bb
  clear hb B0
  go_wp2
  go_ret
  exact ⟨rfl, B1⟩
end Go.Proofs.YtgbmbnofnhhblaaDoor.SS
