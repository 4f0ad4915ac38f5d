/- Power buffers: marks. -/
import Derived.Test.YthdieeaegplnmaaPbU
import Derived.Test.YthdieeaegplnmaaPbA
import Derived.Test.YthdieeaegplnmaaMark
import Derived.Test.YthdieeaegplnmaaRel
namespace Go.Proofs.Ythdieeaegplnmaa.Pb
open Go.RowKit
open Go.Proofs.Ythdieeaegplnmaa.Num Go.Proofs.Ythdieeaegplnmaa.Mem Go.Proofs.Ythdieeaegplnmaa.Hsh Go.Proofs.Ythdieeaegplnmaa.Sls Go.Proofs.Ythdieeaegplnmaa.Own Go.Proofs.Ythdieeaegplnmaa.SS Go.Proofs.Ythdieeaegplnmaa.Gb
set_option linter.unusedSimpArgs false
set_option linter.unusedVariables false
/-- only blocks of bytes have turned -/
def TypeKept (w w' : World) : Prop := ∀ (q : Nat) (cs : Array Value) (t : TypeId) (z : Nat × Nat), t ≠ 5 → w.heap[q]? = some (Obj.cells cs t z) → w'.heap[q]? = w.heap[q]?
theorem TypeKept.refl (w : World) : TypeKept w w := fun _ _ _ _ _ _ => rfl
theorem TypeKept.step {w wr w1 : World} {b n c sz : Nat} {A : Option Addr} {xs : List Value} (h : TypeKept w wr) (ho : wr.ownsRow b 5 sz (.slice A n c) n xs) (hg : wr.grownBy w1 (blk A)) : TypeKept w w1 := fun q cs t z ht hq => by
  have h1 := h q cs t z ht hq
  refine (hg.block q ?_ ?_).trans h1
  · have h2 := h1.trans hq
    exact (Array.getElem?_eq_some_iff.1 h2).1
  · intro e
    rcases ho.2 with ⟨hv, _⟩ | ⟨g, cap, cur, hv, _, h4, _⟩
    · simp only [Value.slice.injEq] at hv; rw [hv.1] at e; cases e
    · simp only [Value.slice.injEq, true_and] at hv
      rw [hv.1] at e
      simp only [blk, Option.map_some, Option.some.injEq] at e
      subst e
      rw [h1.trans hq] at h4
      simp only [Option.some.injEq, Obj.cells.injEq] at h4
      exact ht h4.2.1
theorem own_typeKept {w w' : World} {base n : Nat} {e : TypeId} {sz : Nat} {v : Value} {xs : List Value} (h : w.ownsRow base e sz v n xs) (he : e ≠ 5) (hk : TypeKept w w') : w'.ownsRow base e sz v n xs := by
  obtain ⟨h1, h2⟩ := h
  rcases h2 with h2 | ⟨g, cap, cur, hv, h3, h4, h5⟩
  · exact ⟨h1, .inl h2⟩
  · exact ⟨h1, .inr ⟨g, cap, cur, hv, h3, (hk g _ _ _ he h4).trans h4, h5⟩⟩
set_option maxHeartbeats 2000000 in
theorem markSS_kept (A : Option Addr) (n c : Nat) (xss : List (List Int)) (k : Int) (lo hi : Nat) (w : World) (h : OwnSS w lo hi A n c xss) (k0 : 0 ≤ k) (k1 : k ≤ 4194304) (hn : n ≤ 2097152) (ht : totL xss ≤ 2097152) :
    Calls Try.prog 63 #[.slice A n c, .int .i64 k] w fun x w' => x = .returned (.int .i64 (k + (totL xss : Int))) ∧ OwnSS w' lo hi A n c (mSS k xss) ∧ TypeKept w w' ∧ Turned lo hi w w' := by
  obtain ⟨h0, ss, h1, h2, h3⟩ := h
  have HL := Lib.hid h0
  have HS := Lib.hid h1
  have HO := Lib.hid h2
  have HI := Lib.hid h3
  have HT := Lib.hid (show ∀ j, totL (xss.take j) ≤ totL xss from totL_le xss)
  have HF := Lib.hid (show totL (xss.take n) = totL xss by rw [List.take_of_length_le (by rw [HL.out]; exact Nat.le_refl _)])
  have HM := Lib.hid (mSS_len k xss)
  clear h0 h1 h2 h3
  go_enter Try.func63, Try.ntmps63
  go_wp2
  go_loopw [1, 5] (fun v1 v5 wr => ∃ j : Nat, j ≤ n ∧ v1 = .int .i64 (k + (totL (xss.take j) : Int)) ∧ v5 = .int .i64 (j : Int) ∧ Own wr lo hi 25 1 A n c (ss.map sl) ∧ InSS wr lo hi ss ((mSS k xss).take j ++ xss.drop j) n ∧ TypeKept w wr ∧ Turned lo hi w wr) (fun _ v5 _ => n - (intOf v5).toNat)
  case atStart => exact ⟨0, Nat.zero_le _, by simp [totL], rfl, HO.out, HI.out, TypeKept.refl _, Turned.refl _ _ _⟩
  case round =>
    obtain ⟨j, hj, rfl, rfl, hown, hin, htk, htr⟩ := hrel
    by_cases hlt : j < n
    · have hr := hown.rd
      obtain ⟨g, o, rfl, hg, hc⟩ := hr.at_ (k := j) (by rw [List.length_map, HS.out]; exact hlt)
      have hcell := hc j (by rw [List.length_map, HS.out]; exact hlt)
      rw [nth_map (by rw [HS.out]; exact hlt)] at hcell
      have hinj := hin.1 j hlt
      rw [mix_new (by rw [HM.out]) (by rw [HM.out, HL.out]; omega) (Nat.le_refl _)] at hinj
      have HC := Lib.hid (show wr.cell? ⟨g, o + j, none⟩ = some (.slice (nth ss j).1 (nth ss j).2.1 (nth ss j).2.2) from hcell)
      have HJ := Lib.hid hinj
      have HN := Lib.hid (len_ints hinj.rd)
      have HO1 := Lib.hid hown
      have HI1 := Lib.hid hin
      have HT1 := Lib.hid htr
      have HTK := Lib.hid htk
      have HST := Lib.hid (totL_step (xss := xss) (k := j) (by rw [HL.out]; exact hlt))
      have hq := HT.out (j + 1)
      have hq' : totL (xss.take j) + (nth ss j).2.1 ≤ 2097152 := by have := HST.out; have := HN.out; omega
      have HMA := Lib.hid (mSS_at k xss j (by rw [HL.out]; exact hlt))
      clear hr hc hcell hinj hown hin htr htk hq
      have hcell := HC.out
      generalize hsj : nth ss j = s at *
      have HSJ := Lib.hid hsj
      clear hsj
      obtain ⟨A', n', c'⟩ := s
      have hK0 : 0 ≤ k + (totL (xss.take j) : Int) := by omega
      have hK1 : k + (totL (xss.take j) : Int) ≤ 16777216 := by omega
      have hn' : n' ≤ 2097152 := by simp only at hq'; omega
      have HE := Lib.hid (show k + (totL (xss.take (j + 1)) : Int) = k + (totL (xss.take j) : Int) + (n' : Int) by have h1 := HST.out; have h2 := HN.out; simp only at h2; rw [h2] at h1; omega)
      generalize k + (totL (xss.take j) : Int) = K at *
      simp only at hcell
      go_wp2_with fail
      refine (markB_any A' n' c' _ K lo hi _ HJ.out hK0 hK1 hn').mono ?_
      rintro x w1 ⟨rfl, ho, hon⟩
      have HX1 := Lib.hid (own_only HO1.out hon (fun g hg e => own_kinds HO1.out HJ.out (by decide) g hg e))
      have HX2 := Lib.hid (show InSS w1 lo hi ss ((mSS k xss).take (j + 1) ++ xss.drop (j + 1)) n from ⟨fun i hi' => by
        rcases Nat.lt_trichotomy i j with h | h | h
        · have h1 := HI1.out.1 i hi'
          rw [mix_old (by rw [HM.out]) (by rw [HM.out, HL.out]; omega) h] at h1
          rw [mix_old (by rw [HM.out]) (by rw [HM.out, HL.out]; omega) (by omega)]
          exact own_only h1 hon (fun g hg e => HI1.out.2 i j h hlt g hg (by rw [HSJ.out]; exact e))
        · subst h
          rw [mix_old (by rw [HM.out]) (by rw [HM.out, HL.out]; omega) (by omega), HMA.out, HSJ.out]
          have h2 := HN.out
          simp only at h2 ⊢
          rw [h2]
          exact ho
        · have h1 := HI1.out.1 i hi'
          rw [mix_new (by rw [HM.out]) (by rw [HM.out, HL.out]; omega) (by omega)] at h1
          rw [mix_new (by rw [HM.out]) (by rw [HM.out, HL.out]; omega) (by omega)]
          exact own_only h1 hon (fun g hg e => HI1.out.2 j i h hi' g (by rw [HSJ.out]; exact e) hg), HI1.out.2⟩)
      have HX3 := Lib.hid (HT1.out.grown hon (fun g hg => ⟨(blk_of_own HJ.out.1 g hg).1, HJ.out.2 g hg⟩))
      have HX4 := Lib.hid (HTK.out.step HJ.out.1 hon)
      clear ho hon hcell
      go_wp2
      go_roundw
      case rel => exact ⟨j + 1, by omega, by rw [HE.out], by go_num, HX1.out, HX2.out, HX4.out, HX3.out⟩
      case measure => simp [intOf]; omega
    · obtain rfl : j = n := by omega
      have HW := Lib.hid hown
      have HQ := Lib.hid hin
      have HX := Lib.hid (show (mSS k xss).take j ++ xss.drop j = mSS k xss by rw [List.take_of_length_le (by rw [HM.out, HL.out]; exact Nat.le_refl _), List.drop_of_length_le (by rw [HL.out]; exact Nat.le_refl _), List.append_nil])
      have HY := Lib.hid htr
      have HYK := Lib.hid htk
      have HE := Lib.hid (show k + (totL (xss.take j) : Int) = k + (totL xss : Int) by rw [HF.out])
      clear hown hin htr htk
      generalize k + (totL (xss.take j) : Int) = K at *
      go_wp2
      go_ret
      exact ⟨by rw [← HE.out]; rfl, ⟨by rw [HM.out, HL.out], ss, HS.out, HW.out, by have h := HQ.out; rw [HX.out] at h; exact h⟩, HYK.out, HY.out⟩
section
variable {w : World} {lo hi h2 g n c j : Nat} {ks : List Kt}
theorem OwnPB.setSt (h : OwnPB w lo hi (some ⟨g, 0, none⟩) n c ks) (hj : j < n) (b : Int) : OwnPB (w.setCell ⟨g, j * 4, none⟩ (.int .i64 b)) lo hi (some ⟨g, 0, none⟩) n c (ks.set j { nthK ks j with st := b }) := by
  obtain ⟨h0, cs, es, r, k1, ⟨k2, k3⟩, ⟨k4, k5⟩, k6, k7⟩ := h
  refine ⟨by simp [h0], cs.set (j * 4) (.int .i64 b), es, r, k1, ⟨by simp [k2], fun i hi' => ?_⟩, ⟨(k4.stored _ (.int .i64 b)).1, k5⟩, fun i hi' => ⟨(k6 i hi').1, ?_⟩, k7⟩
  · obtain ⟨e0, e1, e2, e3⟩ := k3 i hi'
    rw [nthK_set (by omega), cell_set e0, cell_set e1, cell_set e2, cell_set e3, if_neg (show ¬ i * 4 + 1 = j * 4 by omega), if_neg (show ¬ i * 4 + 2 = j * 4 by omega), if_neg (show ¬ i * 4 + 3 = j * 4 by omega)]
    by_cases hij : i = j
    · subst hij; rw [if_pos rfl, if_pos (show i = i from rfl)]; exact ⟨rfl, rfl, rfl, rfl⟩
    · rw [if_neg hij, if_neg (show ¬ i * 4 = j * 4 by omega)]; exact ⟨rfl, rfl, rfl, rfl⟩
  · have hs := ownSS_two k4 (k6 i hi').2 (by decide) (by decide) (j * 4) (.int .i64 b)
    rw [nthK_set (by omega)]
    by_cases hij : i = j
    · subst hij; rw [if_pos rfl]; exact hs
    · rw [if_neg hij]; exact hs
/-- an entry's frames are marked -/
theorem OwnPB.markFr (h : OwnPB w lo hi (some ⟨g, 0, none⟩) n c ks) (hj : j < n) (hh : hi ≤ w.heap.size) : ∃ (s : Sl) (r1 r2 : Nat), w.cell? ⟨g, j * 4 + 2, none⟩ = some (.slice s.1 s.2.1 s.2.2) ∧ OwnSS w r1 r2 s.1 s.2.1 s.2.2 (nthK ks j).fs ∧ (lo ≤ r1 ∧ r1 ≤ r2 ∧ r2 ≤ hi) ∧
    ∀ (w' : World) (yss : List (List Int)), OwnSS w' r1 r2 s.1 s.2.1 s.2.2 yss → TypeKept w w' → Turned r1 r2 w w' → OwnPB w' lo hi (some ⟨g, 0, none⟩) n c (ks.set j { nthK ks j with fs := yss }) := by
  obtain ⟨h0, cs, es, r, k1, ⟨k2, k3⟩, ⟨k4, k5⟩, k6, k7⟩ := h
  obtain ⟨e0, e1, e2, e3⟩ := k3 j hj
  refine ⟨nth es j, (r j).1, (r j).2, by rw [k4.cellAt _ (by omega), e2]; rfl, (k6 j hj).2, (k6 j hj).1, fun w' yss hy hk ht => ?_⟩
  refine ⟨by simp [h0], cs, es, r, k1, ⟨k2, fun i hi' => ?_⟩, ⟨own_typeKept k4 (by decide) hk, k5⟩, fun i hi' => ⟨(k6 i hi').1, ?_⟩, k7⟩
  · have hc := k3 i hi'
    rw [nthK_set (by omega)]
    by_cases hij : i = j
    · subst hij; rw [if_pos rfl]; exact hc
    · rw [if_neg hij]; exact hc
  · rw [nthK_set (by omega)]
    by_cases hij : i = j
    · subst hij; rw [if_pos rfl]; exact hy
    · rw [if_neg hij]
      have hdis : (r i).2 ≤ (r j).1 ∨ (r j).2 ≤ (r i).1 := by
        rcases Nat.lt_or_gt_of_ne hij with h | h
        · exact k7 i j h hj
        · exact (k7 j i h hi').symm
      exact (k6 i hi').2.turned ht hdis (by have := (k6 i hi').1; omega)
end
/-- an entry that is marked from k on -/
def mK (k : Int) (e : Kt) : Kt := ⟨k, (k + 1) % 3 == 0, mSS (k + 2) e.fs, k + 2 + (totL e.fs : Int)⟩
/-- how far the marks have come -/
def offK (ks : List Kt) : Nat → Nat
  | 0 => 0
  | j + 1 => offK ks j + (3 + totL (nthK ks j).fs)
theorem offK_le (ks : List Kt) {a b : Nat} (h : a ≤ b) : offK ks a ≤ offK ks b := by
  induction b with
  | zero => obtain rfl : a = 0 := by omega
            exact Nat.le_refl _
  | succ b ih =>
    rcases Nat.lt_or_ge a (b + 1) with h1 | h1
    · have := ih (by omega)
      simp only [offK]; omega
    · obtain rfl : a = b + 1 := by omega
      exact Nat.le_refl _
theorem offK_tot (ks : List Kt) (n : Nat) : offK ks n ≤ 3 * n + totK ks n := by
  induction n with
  | zero => simp [offK]
  | succ n ih => simp only [offK, totK]; omega
def mKs (k : Int) (ks : List Kt) : List Kt := _root_.List.map (fun (i : Nat) => mK (k + (offK ks i : Int)) (nthK ks i)) (_root_.List.range ks.length)
theorem mKs_len (k : Int) (ks : List Kt) : (mKs k ks).length = ks.length := by simp [mKs]
theorem mKs_at (k : Int) (ks : List Kt) (j : Nat) (h : j < ks.length) : nthK (mKs k ks) j = mK (k + (offK ks j : Int)) (nthK ks j) := by
  have hm : (mKs k ks)[j]? = some (mK (k + (offK ks j : Int)) (nthK ks j)) := by simp [mKs, h]
  show (mKs k ks).getD j _ = _
  rw [List.getD_eq_getElem?_getD, hm]; rfl
/-- the first j entries are marked -/
def mixK (k : Int) (ks : List Kt) (j : Nat) : List Kt := (mKs k ks).take j ++ ks.drop j
theorem mixK_len {k : Int} {ks : List Kt} {j : Nat} (hj : j ≤ ks.length) : (mixK k ks j).length = ks.length := by unfold mixK; simp [mKs_len]; omega
theorem mixK_at {k : Int} {ks : List Kt} {j : Nat} (hj : j < ks.length) : nthK (mixK k ks j) j = nthK ks j := by
  have hl : ((mKs k ks).take j).length = j := by simp [mKs_len]; omega
  unfold nthK mixK
  rw [List.getD_eq_getElem?_getD, List.getElem?_append_right (by omega), hl, Nat.sub_self, List.getElem?_drop, Nat.add_zero, List.getD_eq_getElem?_getD]
theorem mixK_step {k : Int} {ks : List Kt} {j : Nat} (hj : j < ks.length) : (mixK k ks j).set j (mK (k + (offK ks j : Int)) (nthK ks j)) = mixK k ks (j + 1) := by
  have hl : ((mKs k ks).take j).length = j := by simp [mKs_len]; omega
  have hm : (mKs k ks)[j]? = some (mK (k + (offK ks j : Int)) (nthK ks j)) := by simp [mKs, hj]
  unfold mixK
  rw [List.set_append_right _ _ (by omega), hl, Nat.sub_self, List.drop_eq_getElem_cons hj, List.set_cons_zero, List.take_add_one, hm, List.append_assoc]
  rfl
theorem set_four (ks : List Kt) (j : Nat) (hj : j < ks.length) (a : Int) (b : Bool) (f : List (List Int)) (d : Int) :
    let k1 := ks.set j { nthK ks j with st := a }
    let k2 := k1.set j { nthK k1 j with ap := b }
    let k3 := k2.set j { nthK k2 j with fs := f }
    k3.set j { nthK k3 j with lo := d } = ks.set j ⟨a, b, f, d⟩ := by
  intro k1 k2 k3
  have e1 : nthK k1 j = { nthK ks j with st := a } := by rw [nthK_set hj, if_pos rfl]
  have e2 : nthK k2 j = { nthK k1 j with ap := b } := by rw [nthK_set (by simp [k1]; exact hj), if_pos rfl]
  have e3 : nthK k3 j = { nthK k2 j with fs := f } := by rw [nthK_set (by simp [k2, k1]; exact hj), if_pos rfl]
  rw [e3, e2, e1]
  simp [k3, k2, k1, List.set_set]
end Go.Proofs.Ythdieeaegplnmaa.Pb
