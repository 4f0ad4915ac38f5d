/- Marks laid into byte slices, and into slices of byte slices; what the laws read back. -/
import Derived.Test.YthdieeaegplnmaaSS
namespace Go.Proofs.Ythdieeaegplnmaa.SS
open Go.RowKit
open Go.Proofs.Ythdieeaegplnmaa.Num Go.Proofs.Ythdieeaegplnmaa.Mem Go.Proofs.Ythdieeaegplnmaa.Hsh Go.Proofs.Ythdieeaegplnmaa.Sls Go.Proofs.Ythdieeaegplnmaa.Own
set_option linter.unusedSimpArgs false
/-- N marks from k on, as bytes -/
def bmarks (k : Int) (N : Nat) : List Int := _root_.List.map (fun (i : Nat) => (k + (i : Int)) % 256) (_root_.List.range N)
theorem bmarks_len (k : Int) (N : Nat) : (bmarks k N).length = N := by simp [bmarks]
theorem bmarks_at (k : Int) (N j : Nat) (h : j < N) : (bmarks k N).getD j 0 = (k + (j : Int)) % 256 := by simp [bmarks, List.getD, h]
theorem ownsRow_succ' {w : World} {base : Nat} {e : TypeId} {size n : Nat} {v : Value} {xs : List Value} (h : w.ownsRow base e size v n xs) (hn : 0 < n) : ∃ g cap, v = .slice (some ⟨g, 0, none⟩) n cap := by
  obtain ⟨_, h2⟩ := h
  rcases h2 with ⟨_, h0⟩ | ⟨g, cap, _, hv, _⟩
  · omega
  · exact ⟨g, cap, hv⟩
/-- only the slice's own block has turned -/
def Only (A : Option Addr) (w w' : World) : Prop := w.grownBy w' (blk A)
theorem only_set {A : Option Addr} {w w' : World} {g : Nat} (h : Only A w w') (hA : blk A = some g) (o : Nat) (u : Value) : Only A w (w'.setCell ⟨g, o, none⟩ u) :=
  ⟨h.os, h.tape, h.output, by simpa [World.setCell] using h.size, fun k hk hne => (Below.heap_setCell w' _ u k (fun e => hne (by rw [hA, e]))).trans (h.block k hk hne)⟩
set_option maxHeartbeats 1000000 in
theorem markB_any (A : Option Addr) (n c : Nat) (xs : List Value) (k : Int) (lo hi : Nat) (w : World) (h : Own w lo hi 5 1 A n c xs) (k0 : 0 ≤ k) (k1 : k ≤ 16777216) (hn : n ≤ 2097152) :
    Calls Try.prog 17 #[.slice A n c, .int .i64 k] w fun x w' => x = .returned (.int .i64 (k + (n : Int))) ∧ Own w' lo hi 5 1 A n c ((bmarks k n).map (Value.int .u8)) ∧ Only A w w' := by
  have hl := Lib.hid (show xs.length = n by have := h.1.1; simpa using this)
  have HO := Lib.hid h
  clear h
  go_enter Try.func17, Try.ntmps17
  go_wp2
  go_loopw [1, 5] (fun v1 v5 wr => ∃ j : Nat, j ≤ n ∧ v1 = .int .i64 (k + (j : Int)) ∧ v5 = .int .i64 (j : Int) ∧ Own wr lo hi 5 1 A n c (((bmarks k n).take j).map (Value.int .u8) ++ xs.drop j) ∧ Only A w wr) (fun _ v5 _ => n - (intOf v5).toNat)
  case atStart => exact ⟨0, Nat.zero_le _, by go_num, rfl, HO.out, World.grownBy.refl w _⟩
  case round =>
    obtain ⟨j, hj, rfl, rfl, hown, ht⟩ := hrel
    by_cases hlt : j < n
    · obtain ⟨g, cap, hv⟩ := ownsRow_succ' hown.1 (by omega)
      simp only [Value.slice.injEq, true_and] at hv
      obtain ⟨rfl, rfl⟩ := hv
      have HS := Lib.hid (row_step (k := j) (zs := bmarks k n) (Z := xs) (f := Value.int .u8) (by rw [bmarks_len]; omega) (by rw [hl.out]; omega))
      rw [bmarks_at _ _ _ hlt] at HS
      have hK0 : 0 ≤ k + (j : Int) := by omega
      have hK1 : k + (j : Int) ≤ 33554432 := by omega
      have HE := Lib.hid (show k + ((j : Int) + 1) = k + (j : Int) + 1 by omega)
      generalize k + (j : Int) = K at *
      have hfr := hown.1.frozenAt
      have hlen := hown.1.1
      obtain ⟨u0, d0⟩ : ∃ u, wr.cell? ⟨g, j, none⟩ = some u := ⟨_, by rw [hown.1.cellAt j (by omega), List.getElem?_eq_getElem (by omega)]⟩
      have HT := Lib.hid ((hown.1.stored j (.int .u8 (K % 256))).1)
      have HB := Lib.hid (only_set ht rfl j (.int .u8 (K % 256)))
      have HA := Lib.hid hown.2
      clear hown ht hlen
      go_wp2
      go_roundw
      case rel => exact ⟨j + 1, by omega, by rw [show ((j + 1 : Nat) : Int) = (j : Int) + 1 from rfl, HE.out], by go_num, ⟨by rw [← HS.out]; exact HT.out, HA.out⟩, HB.out⟩
      case measure => simp [intOf]; omega
    · obtain rfl : j = n := by omega
      have HX := Lib.hid (show ((bmarks k j).take j).map (Value.int .u8) ++ xs.drop j = (bmarks k j).map (Value.int .u8) by rw [List.take_of_length_le (by rw [bmarks_len]; exact Nat.le_refl _), List.drop_of_length_le (by rw [hl.out]; exact Nat.le_refl _), List.append_nil])
      have HW := Lib.hid hown
      clear hown
      go_wp2
      go_ret
      exact ⟨rfl, by have h := HW.out; rw [HX.out] at h; exact h, ht⟩
set_option maxHeartbeats 1000000 in
theorem heldB_any (A : Option Addr) (n c : Nat) (k : Int) (w : World) (h : Rd w 1 A n c ((bmarks k n).map (Value.int .u8))) (k0 : 0 ≤ k) (k1 : k ≤ 16777216) (hn : n ≤ 2097152) :
    Calls Try.prog 94 #[.slice A n c, .int .i64 k] w fun x w' => x = .returned (.int .i64 (k + (n : Int))) ∧ w = w' := by
  have HR := Lib.hid h
  clear h
  go_enter Try.func94, Try.ntmps94
  go_wp2
  go_loop [1, 5] (fun v1 v5 => ∃ j : Nat, j ≤ n ∧ v1 = .int .i64 (k + (j : Int)) ∧ v5 = .int .i64 (j : Int)) (fun _ v5 => n - (intOf v5).toNat)
  case atStart => exact ⟨0, Nat.zero_le _, by go_num, rfl⟩
  case round =>
    obtain ⟨j, hj, rfl, rfl⟩ := hrel
    by_cases hlt : j < n
    · obtain ⟨g, o, rfl, hg, c0⟩ := HR.out.int_at hlt
      rw [bmarks_at _ _ _ hlt] at c0
      have hK0 : 0 ≤ k + (j : Int) := by omega
      have hK1 : k + (j : Int) ≤ 33554432 := by omega
      have HE := Lib.hid (show k + ((j : Int) + 1) = k + (j : Int) + 1 by omega)
      generalize k + (j : Int) = K at *
      go_wp2
      go_round
      case rel => exact ⟨j + 1, by omega, by rw [show ((j + 1 : Nat) : Int) = (j : Int) + 1 from rfl, HE.out], by go_num⟩
      case measure => simp [intOf]; omega
    · obtain rfl : j = n := by omega
      go_wp2
      go_ret
      exact ⟨rfl, rfl⟩
/-- the marks of a slice of byte slices, from k on -/
def mSS (k : Int) (xss : List (List Int)) : List (List Int) := _root_.List.map (fun (i : Nat) => bmarks (k + (totL (xss.take i) : Int)) (xss.getD i []).length) (_root_.List.range xss.length)
theorem mSS_len (k : Int) (xss : List (List Int)) : (mSS k xss).length = xss.length := by simp [mSS]
theorem mSS_at (k : Int) (xss : List (List Int)) (j : Nat) (h : j < xss.length) : (mSS k xss).getD j [] = bmarks (k + (totL (xss.take j) : Int)) (xss.getD j []).length := by simp [mSS, List.getD, h]
theorem mix_old {xs ys : List (List Int)} {i j : Nat} (hl : xs.length = ys.length) (hj : j ≤ xs.length) (h : i < j) : (xs.take j ++ ys.drop j).getD i [] = xs.getD i [] := by
  simp only [List.getD]
  rw [List.getElem?_append_left (by simp; omega), List.getElem?_take, if_pos h]
theorem mix_new {xs ys : List (List Int)} {i j : Nat} (hl : xs.length = ys.length) (hj : j ≤ xs.length) (h : j ≤ i) : (xs.take j ++ ys.drop j).getD i [] = ys.getD i [] := by
  simp only [List.getD]
  rw [List.getElem?_append_right (by simp; omega), List.getElem?_drop]
  congr 2
  simp; omega
theorem own_only {w w' : World} {lo hi : Nat} {e : TypeId} {sz : Nat} {A : Option Addr} {n c : Nat} {xs : List Value} {row : Option Nat} (h : Own w lo hi e sz A n c xs) (hg : w.grownBy w' row) (hne : ∀ g, blk A = some g → row ≠ some g) : Own w' lo hi e sz A n c xs := by
  obtain ⟨h1, h2⟩ := h
  refine ⟨h1.kept hg ?_, h2⟩
  cases A with
  | none => exact .inl rfl
  | some a => exact .inr (fun e => hne a.block rfl e.symm)
theorem own_kinds {w : World} {lo hi lo' hi' : Nat} {e e' : TypeId} {sz sz' : Nat} {A B : Option Addr} {n c m d : Nat} {xs ys : List Value} (h : Own w lo hi e sz A n c xs) (h' : Own w lo' hi' e' sz' B m d ys) (hne : e ≠ e') : ∀ g, blk A = some g → blk B ≠ some g := by
  intro g hA hB
  rcases h.1.2 with ⟨hv, _⟩ | ⟨g1, _, cur, hv, _, hh, _⟩
  · injection hv with hv; rw [hv] at hA; cases hA
  rcases h'.1.2 with ⟨hv', _⟩ | ⟨g2, _, cur', hv', _, hh', _⟩
  · injection hv' with hv'; rw [hv'] at hB; cases hB
  injection hv with hv
  injection hv' with hv'
  rw [hv] at hA
  rw [hv'] at hB
  simp only [blk, Option.map_some, Option.some.injEq] at hA hB
  subst hA hB
  rw [hh] at hh'
  injection hh' with hh'
  injection hh' with _ ht
  exact hne ht
set_option maxHeartbeats 2000000 in
theorem markSS_any (A : Option Addr) (n c : Nat) (xss : List (List Int)) (k : Int) (lo hi : Nat) (w : World) (h : OwnSS w lo hi A n c xss) (k0 : 0 ≤ k) (k1 : k ≤ 4194304) (hn : n ≤ 2097152) (ht : totL xss ≤ 2097152) :
    Calls Try.prog 63 #[.slice A n c, .int .i64 k] w fun x w' => x = .returned (.int .i64 (k + (totL xss : Int))) ∧ OwnSS w' lo hi A n c (mSS k xss) ∧ Turned lo hi w w' := by
  obtain ⟨h0, ss, h1, h2, h3⟩ := h
  have HL := Lib.hid h0
  have HS := Lib.hid h1
  have HO := Lib.hid h2
  have HI := Lib.hid h3
  have HT := Lib.hid (show ∀ j, totL (xss.take j) ≤ totL xss from totL_le xss)
  have HF := Lib.hid (show totL (xss.take n) = totL xss by rw [List.take_of_length_le (by rw [HL.out]; exact Nat.le_refl _)])
  have HM := Lib.hid (mSS_len k xss)
  clear h0 h1 h2 h3
  go_enter Try.func63, Try.ntmps63
  go_wp2
  go_loopw [1, 5] (fun v1 v5 wr => ∃ j : Nat, j ≤ n ∧ v1 = .int .i64 (k + (totL (xss.take j) : Int)) ∧ v5 = .int .i64 (j : Int) ∧ Own wr lo hi 25 1 A n c (ss.map sl) ∧ InSS wr lo hi ss ((mSS k xss).take j ++ xss.drop j) n ∧ Turned lo hi w wr) (fun _ v5 _ => n - (intOf v5).toNat)
  case atStart => exact ⟨0, Nat.zero_le _, by simp [totL], rfl, HO.out, HI.out, Turned.refl _ _ _⟩
  case round =>
    obtain ⟨j, hj, rfl, rfl, hown, hin, htr⟩ := hrel
    by_cases hlt : j < n
    · have hr := hown.rd
      obtain ⟨g, o, rfl, hg, hc⟩ := hr.at_ (k := j) (by rw [List.length_map, HS.out]; exact hlt)
      have hcell := hc j (by rw [List.length_map, HS.out]; exact hlt)
      rw [nth_map (by rw [HS.out]; exact hlt)] at hcell
      have hinj := hin.1 j hlt
      rw [mix_new (by rw [HM.out]) (by rw [HM.out, HL.out]; omega) (Nat.le_refl _)] at hinj
      have HC := Lib.hid (show wr.cell? ⟨g, o + j, none⟩ = some (.slice (nth ss j).1 (nth ss j).2.1 (nth ss j).2.2) from hcell)
      have HJ := Lib.hid hinj
      have HN := Lib.hid (len_ints hinj.rd)
      have HO1 := Lib.hid hown
      have HI1 := Lib.hid hin
      have HT1 := Lib.hid htr
      have HST := Lib.hid (totL_step (xss := xss) (k := j) (by rw [HL.out]; exact hlt))
      have hq := HT.out (j + 1)
      have hq' : totL (xss.take j) + (nth ss j).2.1 ≤ 2097152 := by have := HST.out; have := HN.out; omega
      have HMA := Lib.hid (mSS_at k xss j (by rw [HL.out]; exact hlt))
      clear hr hc hcell hinj hown hin htr hq
      have hcell := HC.out
      generalize hsj : nth ss j = s at *
      have HSJ := Lib.hid hsj
      clear hsj
      obtain ⟨A', n', c'⟩ := s
      have hK0 : 0 ≤ k + (totL (xss.take j) : Int) := by omega
      have hK1 : k + (totL (xss.take j) : Int) ≤ 16777216 := by omega
      have hn' : n' ≤ 2097152 := by simp only at hq'; omega
      have HE := Lib.hid (show k + (totL (xss.take (j + 1)) : Int) = k + (totL (xss.take j) : Int) + (n' : Int) by have h1 := HST.out; have h2 := HN.out; simp only at h2; rw [h2] at h1; omega)
      generalize k + (totL (xss.take j) : Int) = K at *
      simp only at hcell
      go_wp2_with fail
      refine (markB_any A' n' c' _ K lo hi _ HJ.out hK0 hK1 hn').mono ?_
      rintro x w1 ⟨rfl, ho, hon⟩
      have HX1 := Lib.hid (own_only HO1.out hon (fun g hg e => own_kinds HO1.out HJ.out (by decide) g hg e))
      have HX2 := Lib.hid (show InSS w1 lo hi ss ((mSS k xss).take (j + 1) ++ xss.drop (j + 1)) n from ⟨fun i hi' => by
        rcases Nat.lt_trichotomy i j with h | h | h
        · have h1 := HI1.out.1 i hi'
          rw [mix_old (by rw [HM.out]) (by rw [HM.out, HL.out]; omega) h] at h1
          rw [mix_old (by rw [HM.out]) (by rw [HM.out, HL.out]; omega) (by omega)]
          exact own_only h1 hon (fun g hg e => HI1.out.2 i j h hlt g hg (by rw [HSJ.out]; exact e))
        · subst h
          rw [mix_old (by rw [HM.out]) (by rw [HM.out, HL.out]; omega) (by omega), HMA.out, HSJ.out]
          have h2 := HN.out
          simp only at h2 ⊢
          rw [h2]
          exact ho
        · have h1 := HI1.out.1 i hi'
          rw [mix_new (by rw [HM.out]) (by rw [HM.out, HL.out]; omega) (by omega)] at h1
          rw [mix_new (by rw [HM.out]) (by rw [HM.out, HL.out]; omega) (by omega)]
          exact own_only h1 hon (fun g hg e => HI1.out.2 j i h hi' g (by rw [HSJ.out]; exact e) hg), HI1.out.2⟩)
      have HX3 := Lib.hid (HT1.out.grown hon (fun g hg => ⟨(blk_of_own HJ.out.1 g hg).1, HJ.out.2 g hg⟩))
      clear ho hon hcell
      go_wp2
      go_roundw
      case rel => exact ⟨j + 1, by omega, by rw [HE.out], by go_num, HX1.out, HX2.out, HX3.out⟩
      case measure => simp [intOf]; omega
    · obtain rfl : j = n := by omega
      have HW := Lib.hid hown
      have HQ := Lib.hid hin
      have HX := Lib.hid (show (mSS k xss).take j ++ xss.drop j = mSS k xss by rw [List.take_of_length_le (by rw [HM.out, HL.out]; exact Nat.le_refl _), List.drop_of_length_le (by rw [HL.out]; exact Nat.le_refl _), List.append_nil])
      have HY := Lib.hid htr
      have HE := Lib.hid (show k + (totL (xss.take j) : Int) = k + (totL xss : Int) by rw [HF.out])
      clear hown hin htr
      generalize k + (totL (xss.take j) : Int) = K at *
      go_wp2
      go_ret
      exact ⟨by rw [← HE.out]; rfl, ⟨by rw [HM.out, HL.out], ss, HS.out, HW.out, by have h := HQ.out; rw [HX.out] at h; exact h⟩, HY.out⟩
set_option maxHeartbeats 2000000 in
theorem heldSS_any (A : Option Addr) (n c : Nat) (xss : List (List Int)) (k : Int) (w : World) (h : RdSS w A n c (mSS k xss)) (k0 : 0 ≤ k) (k1 : k ≤ 4194304) (hn : n ≤ 2097152) (ht : totL xss ≤ 2097152) :
    Calls Try.prog 64 #[.slice A n c, .int .i64 k] w fun x w' => x = .returned (.int .i64 (k + (totL xss : Int))) ∧ w = w' := by
  have HL := Lib.hid (show xss.length = n by have := h.1; rw [mSS_len] at this; exact this)
  have HR := Lib.hid h
  have HT := Lib.hid (show ∀ j, totL (xss.take j) ≤ totL xss from totL_le xss)
  have HF := Lib.hid (show totL (xss.take n) = totL xss by rw [List.take_of_length_le (by rw [HL.out]; exact Nat.le_refl _)])
  clear h
  go_enter Try.func64, Try.ntmps64
  go_wp2
  go_loop [1, 5] (fun v1 v5 => ∃ j : Nat, j ≤ n ∧ v1 = .int .i64 (k + (totL (xss.take j) : Int)) ∧ v5 = .int .i64 (j : Int)) (fun _ v5 => n - (intOf v5).toNat)
  case atStart => exact ⟨0, Nat.zero_le _, by simp [totL], rfl⟩
  case round =>
    obtain ⟨j, hj, rfl, rfl⟩ := hrel
    by_cases hlt : j < n
    · obtain ⟨g, o, A', n', c', rfl, hg, hc, hrd⟩ := HR.out.at_ hlt
      rw [mSS_at _ _ _ (by rw [HL.out]; exact hlt)] at hrd
      have HN := Lib.hid (show (xss.getD j []).length = n' by have := len_ints hrd; rw [bmarks_len] at this; exact this)
      rw [HN.out] at hrd
      have HJ := Lib.hid hrd
      have HST := Lib.hid (totL_step (xss := xss) (k := j) (by rw [HL.out]; exact hlt))
      have hq := HT.out (j + 1)
      have hq' : totL (xss.take j) + n' ≤ 2097152 := by have := HST.out; have := HN.out; omega
      have hK0 : 0 ≤ k + (totL (xss.take j) : Int) := by omega
      have hK1 : k + (totL (xss.take j) : Int) ≤ 16777216 := by omega
      have hn' : n' ≤ 2097152 := by omega
      have HE := Lib.hid (show k + (totL (xss.take (j + 1)) : Int) = k + (totL (xss.take j) : Int) + (n' : Int) by have h1 := HST.out; have h2 := HN.out; rw [h2] at h1; omega)
      clear hrd hq
      generalize k + (totL (xss.take j) : Int) = K at *
      go_wp2_with (first | (go_at_call 94; refine (heldB_any A' n' c' K _ HJ.out hK0 hK1 hn').mono ?_; rintro x w' ⟨rfl, rfl⟩))
      go_round
      case rel => exact ⟨j + 1, by omega, by rw [HE.out], by go_num⟩
      case measure => simp [intOf]; omega
    · obtain rfl : j = n := by omega
      have HE := Lib.hid (show k + (totL (xss.take j) : Int) = k + (totL xss : Int) by rw [HF.out])
      generalize k + (totL (xss.take j) : Int) = K at *
      go_wp2
      go_ret
      exact ⟨by rw [← HE.out]; rfl, rfl⟩
end Go.Proofs.Ythdieeaegplnmaa.SS
