/- Contracts of the laws' helpers on slices of numbers: a copy in new memory; the comparison of two slices that read the same. -/
import Derived.Test.YthdieeaegplnmaaBytes
import Derived.BigQuiet
import Derived.Deep.QuietTactic
namespace Go.Proofs.Ythdieeaegplnmaa.Sls
open Go.RowKit
open Go.Proofs.Ythdieeaegplnmaa.Num Go.Proofs.Ythdieeaegplnmaa.Mem Go.Proofs.Ythdieeaegplnmaa.Hsh

theorem row_at {k : Nat} {zs : List Int} {Z : List Value} {f : Int → Value} (h1 : k < zs.length) (h2 : k < Z.length) : ((zs.take k).map f ++ Z.drop k)[k]? = some (Z.getD k (.int .i64 0)) := by
  rw [List.getElem?_append_right (by simp; omega)]
  simp [List.getD, h2, Nat.min_eq_left (Nat.le_of_lt h1)]
theorem row_step {k : Nat} {zs : List Int} {Z : List Value} {f : Int → Value} (h1 : k < zs.length) (h2 : k < Z.length) : ((zs.take k).map f ++ Z.drop k).set k (f (zs.getD k 0)) = (zs.take (k + 1)).map f ++ Z.drop (k + 1) := by
  rw [List.set_append_right _ _ (by simp; omega), take_snoc zs k h1, List.map_append, List.append_assoc]
  congr 1
  rw [List.length_map, List.length_take, Nat.min_eq_left (Nat.le_of_lt h1), Nat.sub_self, List.drop_eq_getElem_cons h2]
  rfl
theorem u8Info : (Try.prog.info? 5).map (fun i => (i.zero, i.size, i.bytes)) = some (some (.int .u8 0), 1, 1) := by kernel_rfl
set_option maxHeartbeats 1000000 in
theorem toByteS_any (A : Option Addr) (n c : Nat) (zs : List Int) (w : World) (hr : Rd w 1 A n c (zs.map (Value.int .u8))) (hn : n ≤ 2097152) :
    Calls Try.prog 12 #[.slice A n c] w (RetOwn w 5 1 n (zs.map (Value.int .u8))) := by
  obtain ⟨i0, hi, hz0, hz1, hz2⟩ := info_parts u8Info
  have hl := Lib.hid (len_ints hr)
  have HR := Lib.hid hr
  clear hr
  go_enter Try.func12, Try.ntmps12
  go_wp2_with (at_make; refine wpList_make_full _ rfl _ _ 25 rfl w.heap.size 5 i0 (.int .u8 0) 1 Try.underlying25 hi hz0 hz1 _ _ _ _ n rfl rfl rfl rfl ?b2 ?b3 (Nat.le_refl _) ?_)
  case b2 => rw [hz2]; omega
  case b3 => unfold maxLen; omega
  intro w0 hown0 hgrow0
  have hb0 : Below w.heap.size w w0 := (Below.refl _ _).grown hgrow0 (Nat.le_refl _) (fun k h => by cases h)
  clear hgrow0
  have hz' : ((madeCells #[Value.int IntKind.u8 0] n).toList).length = n := by simp [size_madeCells]
  generalize (madeCells #[Value.int IntKind.u8 0] n).toList = Z at hown0 hz'
  have HZ := Lib.hid hz'
  have HO := Lib.hid hown0
  clear hz' hown0
  go_wp2
  go_loopw [4] (fun v4 wr => ∃ k : Nat, k ≤ n ∧ v4 = .int .i64 (k : Int) ∧ wr.ownsRow w.heap.size 5 1 (.slice (some ⟨w.heap.size, 0, none⟩) n n) n ((zs.take k).map (Value.int .u8) ++ Z.drop k) ∧ Below w.heap.size w wr) (fun v4 _ => n - (intOf v4).toNat)
  case atStart => exact ⟨0, Nat.zero_le _, rfl, HO.out, hb0⟩
  case round =>
    obtain ⟨k, hk, rfl, hown, hbr⟩ := hrel
    by_cases hlt : k < n
    · obtain ⟨g, o, rfl, hg, hc0⟩ := HR.out.int_at hlt
      have hc := (hbr.cell (p := ⟨g, o + k, none⟩) hg).trans hc0
      have hcell := hown.cellAt k (by omega)
      have hfr := hown.frozenAt k
      have hst := Lib.hid (hown.stored k (.int .u8 (zs.getD k 0)))
      have hsp := Lib.hid (row_step (k := k) (zs := zs) (Z := Z) (f := Value.int .u8) (by rw [hl.out]; exact hlt) (by rw [HZ.out]; exact hlt))
      rw [row_at (by rw [hl.out]; exact hlt) (by rw [HZ.out]; exact hlt)] at hcell
      generalize zs.getD k 0 = z at hc hst hsp
      obtain ⟨u, hu⟩ : ∃ u, Z.getD k (.int .i64 0) = u := ⟨_, rfl⟩
      rw [hu] at hcell
      have hbs := Lib.hid (hbr.setCell (p := ⟨w.heap.size, k, none⟩) (Nat.le_refl _) (.int .u8 z))
      clear hown hu hc0 hbr hb0
      go_wp2
      go_roundw
      case rel => exact ⟨k + 1, by omega, by go_num, by rw [← hsp.out]; exact hst.out.1, hbs.out⟩
      case measure => simp [intOf]; omega
    · obtain rfl : k = n := by omega
      have HA := Lib.hid (show (zs.take k).map (Value.int .u8) ++ Z.drop k = zs.map (Value.int .u8) by rw [List.take_of_length_le (by rw [hl.out]; exact Nat.le_refl _), List.drop_of_length_le (by rw [HZ.out]; exact Nat.le_refl _), List.append_nil])
      have HW := Lib.hid hown
      clear hown
      go_wp2
      go_ret
      exact ⟨_, _, rfl, by have h := HW.out; rw [HA.out] at h; exact h, hbr⟩
/-- the answer of a comparison; all that was there is as it was -/
def Says (b : Prop) [Decidable b] (w : World) (e : Ending) (w' : World) : Prop := e = .returned (.bool (decide b)) ∧ Below w.heap.size w w'
theorem says_yes {b : Prop} [Decidable b] {w w' : World} (h : b) (hb : Below w.heap.size w w') : Says b w (.returned (.bool true)) w' := ⟨by rw [decide_eq_true h], hb⟩
theorem says_no {b : Prop} [Decidable b] {w w' : World} (h : ¬ b) (hb : Below w.heap.size w w') : Says b w (.returned (.bool false)) w' := ⟨by rw [decide_eq_false h], hb⟩
theorem below_drewN {B : Nat} {a w : World} (h : Below B a w) (k : Nat) : Below B a (w.drewN k) := ⟨h.os, h.tape, h.output, h.size, h.block⟩
theorem eq_step {xs ys : List Int} {k : Nat} (h1 : k < xs.length) (h2 : k < ys.length) (h : xs.take k = ys.take k) (he : xs.getD k 0 = ys.getD k 0) : xs.take (k + 1) = ys.take (k + 1) := by
  rw [take_snoc xs k h1, take_snoc ys k h2, h, he]
theorem neq_at {xs ys : List Int} {k : Nat} (h : ¬ xs.getD k 0 = ys.getD k 0) : ¬ xs = ys := fun e => h (by rw [e])
set_option maxRecDepth 100000 in
set_option maxHeartbeats 1000000 in
theorem eqByteS_laws (A : Option Addr) (n c : Nat) (xs : List Int) (B : Option Addr) (m d : Nat) (ys : List Int) (w : World) (hx : Rd w 1 A n c (xs.map (Value.int .u8))) (hy : Rd w 1 B m d (ys.map (Value.int .u8))) :
    Calls Try.prog 15 #[.slice A n c, .slice B m d] w (Says (xs = ys) w) := by
  have hl := Lib.hid (len_ints hx)
  have hk := Lib.hid (len_ints hy)
  have hn : n ≤ 9223372036854775807 := by have h1 := hx.2.1; have h2 := hx.2.2.1; unfold maxLen at h2; omega
  have HX := Lib.hid hx
  have HY := Lib.hid hy
  clear hx hy
  by_cases hnm : n = m
  · obtain rfl : m = n := hnm.symm
    go_enter Try.func15, Try.ntmps15
    go_wp2
    go_loopw [5] (fun v5 wr => ∃ k : Nat, k ≤ m ∧ v5 = .int .i64 (k : Int) ∧ xs.take k = ys.take k ∧ Below w.heap.size w wr) (fun v5 _ => m - (intOf v5).toNat)
    case atStart => exact ⟨0, Nat.zero_le _, rfl, rfl, Below.refl _ _⟩
    case round =>
      obtain ⟨k, hkm, rfl, heq, hbr⟩ := hrel
      have HE := Lib.hid heq
      clear heq
      by_cases hlt : k < m
      · obtain ⟨g, o, rfl, hg, hcx⟩ := (HX.out.below hbr).int_at hlt
        obtain ⟨g2, o2, rfl, hg2, hcy⟩ := (HY.out.below hbr).int_at hlt
        have HB := Lib.hid hbr
        clear hbr
        have HS := Lib.hid (fun he => eq_step (k := k) (by rw [hl.out]; exact hlt) (by rw [hk.out]; exact hlt) HE.out he)
        have HN := Lib.hid (fun hne => neq_at (k := k) (xs := xs) (ys := ys) hne)
        generalize xs.getD k 0 = x at hcx HS HN
        generalize ys.getD k 0 = y at hcy HS HN
        by_cases hxy : x = y
        · have HY2 := Lib.hid (HS.out hxy)
          have h1 : (x == y) = true := by simpa using hxy
          have h2 : (x != y) = false := by simpa using hxy
          clear hxy HS HN
          go_wp2
          go_quiet (fail)
          go_wp2
          go_roundw
          case rel => exact ⟨k + 1, by omega, by go_num, HY2.out, below_drewN HB.out _⟩
          case measure => simp [intOf]; omega
        · have HN2 := Lib.hid (HN.out hxy)
          have h1 : (x == y) = false := by simpa using hxy
          have h2 : (x != y) = true := by simpa using hxy
          clear hxy HS HN
          go_wp2
          go_quiet (fail)
          go_wp2
          go_ret
          exact says_no HN2.out (below_drewN HB.out _)
      · have HA := Lib.hid (show xs = ys by
          have h := HE.out
          rw [List.take_of_length_le (by rw [hl.out]; omega), List.take_of_length_le (by rw [hk.out]; omega)] at h
          exact h)
        have HB := Lib.hid hbr
        clear hbr
        go_wp2
        go_ret
        exact says_yes HA.out HB.out
  · have h1 : ((n : Int) == (m : Int)) = false := by rw [beq_eq_false_iff_ne]; omega
    have h2 : ((n : Int) != (m : Int)) = true := by rw [bne_iff_ne]; omega
    have hne := Lib.hid (show ¬ xs = ys from fun e => hnm (by rw [← hl.out, ← hk.out, e]))
    clear hnm
    go_enter Try.func15, Try.ntmps15
    go_wp2
    go_ret
    exact says_no hne.out (Below.refl _ _)
set_option maxRecDepth 100000 in
set_option maxHeartbeats 1000000 in
theorem sameBytes_laws (A : Option Addr) (n c : Nat) (xs : List Int) (B : Option Addr) (m d : Nat) (ys : List Int) (w : World) (hx : Rd w 1 A n c (xs.map (Value.int .u8))) (hy : Rd w 1 B m d (ys.map (Value.int .u8))) :
    Calls Try.prog 50 #[.slice A n c, .slice B m d] w (Says (xs = ys) w) := by
  have hl := Lib.hid (len_ints hx)
  have hk := Lib.hid (len_ints hy)
  have hn : n ≤ 9223372036854775807 := by have h1 := hx.2.1; have h2 := hx.2.2.1; unfold maxLen at h2; omega
  have HX := Lib.hid hx
  have HY := Lib.hid hy
  clear hx hy
  by_cases hnm : n = m
  · obtain rfl : m = n := hnm.symm
    go_enter Try.func50, Try.ntmps50
    go_wp2
    go_loopw [5] (fun v5 wr => ∃ k : Nat, k ≤ m ∧ v5 = .int .i64 (k : Int) ∧ xs.take k = ys.take k ∧ Below w.heap.size w wr) (fun v5 _ => m - (intOf v5).toNat)
    case atStart => exact ⟨0, Nat.zero_le _, rfl, rfl, Below.refl _ _⟩
    case round =>
      obtain ⟨k, hkm, rfl, heq, hbr⟩ := hrel
      have HE := Lib.hid heq
      clear heq
      by_cases hlt : k < m
      · obtain ⟨g, o, rfl, hg, hcx⟩ := (HX.out.below hbr).int_at hlt
        obtain ⟨g2, o2, rfl, hg2, hcy⟩ := (HY.out.below hbr).int_at hlt
        have HB := Lib.hid hbr
        clear hbr
        have HS := Lib.hid (fun he => eq_step (k := k) (by rw [hl.out]; exact hlt) (by rw [hk.out]; exact hlt) HE.out he)
        have HN := Lib.hid (fun hne => neq_at (k := k) (xs := xs) (ys := ys) hne)
        generalize xs.getD k 0 = x at hcx HS HN
        generalize ys.getD k 0 = y at hcy HS HN
        by_cases hxy : x = y
        · have HY2 := Lib.hid (HS.out hxy)
          have h1 : (x == y) = true := by simpa using hxy
          have h2 : (x != y) = false := by simpa using hxy
          clear hxy HS HN
          go_wp2
          go_quiet (fail)
          go_wp2
          go_roundw
          case rel => exact ⟨k + 1, by omega, by go_num, HY2.out, below_drewN HB.out _⟩
          case measure => simp [intOf]; omega
        · have HN2 := Lib.hid (HN.out hxy)
          have h1 : (x == y) = false := by simpa using hxy
          have h2 : (x != y) = true := by simpa using hxy
          clear hxy HS HN
          go_wp2
          go_quiet (fail)
          go_wp2
          go_ret
          exact says_no HN2.out (below_drewN HB.out _)
      · have HA := Lib.hid (show xs = ys by
          have h := HE.out
          rw [List.take_of_length_le (by rw [hl.out]; omega), List.take_of_length_le (by rw [hk.out]; omega)] at h
          exact h)
        have HB := Lib.hid hbr
        clear hbr
        go_wp2
        go_ret
        exact says_yes HA.out HB.out
  · have h1 : ((n : Int) == (m : Int)) = false := by rw [beq_eq_false_iff_ne]; omega
    have h2 : ((n : Int) != (m : Int)) = true := by rw [bne_iff_ne]; omega
    have hne := Lib.hid (show ¬ xs = ys from fun e => hnm (by rw [← hl.out, ← hk.out, e]))
    clear hnm
    go_enter Try.func50, Try.ntmps50
    go_wp2
    go_ret
    exact says_no hne.out (Below.refl _ _)
set_option maxRecDepth 100000 in
set_option maxHeartbeats 1000000 in
theorem EqualBytes_impl (A : Option Addr) (n c : Nat) (xs : List Int) (B : Option Addr) (m d : Nat) (ys : List Int) (w : World) (hx : Rd w 1 A n c (xs.map (Value.int .u8))) (hy : Rd w 1 B m d (ys.map (Value.int .u8))) :
    Calls Try.prog 97 #[.slice A n c, .slice B m d] w (Says (xs = ys) w) := by
  have hl := Lib.hid (len_ints hx)
  have hk := Lib.hid (len_ints hy)
  have hn : n ≤ 9223372036854775807 := by have h1 := hx.2.1; have h2 := hx.2.2.1; unfold maxLen at h2; omega
  have HX := Lib.hid hx
  have HY := Lib.hid hy
  clear hx hy
  by_cases hnm : n = m
  · obtain rfl : m = n := hnm.symm
    go_enter Try.func97, Try.ntmps97
    go_wp2
    go_loopw [13] (fun v5 wr => ∃ k : Nat, k ≤ m ∧ v5 = .int .i64 (k : Int) ∧ xs.take k = ys.take k ∧ Below w.heap.size w wr) (fun v5 _ => m - (intOf v5).toNat)
    case atStart => exact ⟨0, Nat.zero_le _, rfl, rfl, Below.refl _ _⟩
    case round =>
      obtain ⟨k, hkm, rfl, heq, hbr⟩ := hrel
      have HE := Lib.hid heq
      clear heq
      by_cases hlt : k < m
      · obtain ⟨g, o, rfl, hg, hcx⟩ := (HX.out.below hbr).int_at hlt
        obtain ⟨g2, o2, rfl, hg2, hcy⟩ := (HY.out.below hbr).int_at hlt
        have HB := Lib.hid hbr
        clear hbr
        have HS := Lib.hid (fun he => eq_step (k := k) (by rw [hl.out]; exact hlt) (by rw [hk.out]; exact hlt) HE.out he)
        have HN := Lib.hid (fun hne => neq_at (k := k) (xs := xs) (ys := ys) hne)
        generalize xs.getD k 0 = x at hcx HS HN
        generalize ys.getD k 0 = y at hcy HS HN
        by_cases hxy : x = y
        · have HY2 := Lib.hid (HS.out hxy)
          have h1 : (x == y) = true := by simpa using hxy
          have h2 : (x != y) = false := by simpa using hxy
          clear hxy HS HN
          go_wp2
          go_quiet (fail)
          go_wp2
          go_roundw
          case rel => exact ⟨k + 1, by omega, by go_num, HY2.out, below_drewN HB.out _⟩
          case measure => simp [intOf]; omega
        · have HN2 := Lib.hid (HN.out hxy)
          have h1 : (x == y) = false := by simpa using hxy
          have h2 : (x != y) = true := by simpa using hxy
          clear hxy HS HN
          go_wp2
          go_quiet (fail)
          go_wp2
          go_ret
          exact says_no HN2.out (below_drewN HB.out _)
      · have HA := Lib.hid (show xs = ys by
          have h := HE.out
          rw [List.take_of_length_le (by rw [hl.out]; omega), List.take_of_length_le (by rw [hk.out]; omega)] at h
          exact h)
        have HB := Lib.hid hbr
        clear hbr
        go_wp2
        go_ret
        exact says_yes HA.out HB.out
  · have h1 : ((n : Int) == (m : Int)) = false := by rw [beq_eq_false_iff_ne]; omega
    have h2 : ((n : Int) != (m : Int)) = true := by rw [bne_iff_ne]; omega
    have hne := Lib.hid (show ¬ xs = ys from fun e => hnm (by rw [← hl.out, ← hk.out, e]))
    clear hnm
    go_enter Try.func97, Try.ntmps97
    go_wp2
    go_ret
    exact says_no hne.out (Below.refl _ _)
end Go.Proofs.Ythdieeaegplnmaa.Sls
