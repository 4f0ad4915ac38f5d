import Derived.Test.YthdieeaegplnmaaBase
import Derived.Laws.CopyOwn
import Derived.Deep.RegionHeld3
import Derived.ProofKit
import Derived.BigQuiet
import Derived.Deep.QuietTactic
/- Memory of one's own between two block numbers; what keeps it; a whole copy onto a row just made. -/
namespace Go.Proofs.Ythdieeaegplnmaa.Own
open Go.RowKit
open Go.Proofs.Ythdieeaegplnmaa.Mem

/-- the slice is one's own, its block lies from lo on and below hi, and it reads as xs -/
def Own (w : World) (lo hi : Nat) (e : TypeId) (sz : Nat) (A : Option Addr) (n c : Nat) (xs : List Value) : Prop :=
  w.ownsRow lo e sz (.slice A n c) n xs ∧ ∀ g, blk A = some g → g < hi
section
variable {w w' w'' : World} {lo hi l2 h2 B : Nat} {e : TypeId} {sz : Nat} {A : Option Addr} {n c : Nat} {xs : List Value}
theorem Own.rd (h : Own w lo hi e sz A n c xs) : Rd w sz A n c xs := Rd.of_own h.1
theorem Own.of (h : w.ownsRow lo e sz (.slice A n c) n xs) : Own w lo w.heap.size e sz A n c xs := ⟨h, fun g hg => (blk_of_own h g hg).2⟩
theorem Own.keep (h : Own w lo hi e sz A n c xs) (hk : ∀ g, lo ≤ g → g < hi → w'.heap[g]? = w.heap[g]?) : Own w' lo hi e sz A n c xs := by
  obtain ⟨h1, h2⟩ := h
  refine ⟨⟨h1.1, ?_⟩, h2⟩
  rcases h1.2 with hn | ⟨g, cap, cur, hv, hb, hg, rest⟩
  · exact .inl hn
  · refine .inr ⟨g, cap, cur, hv, hb, ?_, rest⟩
    have hA : blk A = some g := by
      injection hv with hv
      rw [hv]; rfl
    rw [hk g hb (h2 g hA)]
    exact hg
theorem Own.below (h : Own w lo hi e sz A n c xs) (hb : Below B w w') (hB : hi ≤ B) : Own w' lo hi e sz A n c xs := h.keep fun g _ hg => hb.block g (by omega)
theorem Own.wider (h : Own w lo hi e sz A n c xs) (hl : l2 ≤ lo) (hh : hi ≤ h2) : Own w l2 h2 e sz A n c xs := by
  obtain ⟨⟨h1, h3⟩, h4⟩ := h
  refine ⟨⟨h1, ?_⟩, fun g hg => Nat.lt_of_lt_of_le (h4 g hg) hh⟩
  rcases h3 with hn | ⟨g, cap, cur, hv, hb, rest⟩
  · exact .inl hn
  · exact .inr ⟨g, cap, cur, hv, Nat.le_trans hl hb, rest⟩

/-- only blocks from lo on and below hi, and new ones, may have turned -/
structure Turned (lo hi : Nat) (w w' : World) : Prop where
  os : w'.os = w.os
  tape : w'.tape = w.tape
  output : w'.output = w.output
  size : w.heap.size ≤ w'.heap.size
  block : ∀ g, g < w.heap.size → g < lo ∨ hi ≤ g → w'.heap[g]? = w.heap[g]?
theorem Turned.refl (lo hi : Nat) (w : World) : Turned lo hi w w := ⟨rfl, rfl, rfl, Nat.le_refl _, fun _ _ _ => rfl⟩
theorem Turned.trans (h : Turned lo hi w w') (k : Turned lo hi w' w'') : Turned lo hi w w'' :=
  ⟨k.os.trans h.os, k.tape.trans h.tape, k.output.trans h.output, Nat.le_trans h.size k.size, fun g hg hne => (k.block g (Nat.lt_of_lt_of_le hg h.size) hne).trans (h.block g hg hne)⟩
theorem Turned.wider (h : Turned lo hi w w') (hl : l2 ≤ lo) (hh : hi ≤ h2) : Turned l2 h2 w w' := ⟨h.os, h.tape, h.output, h.size, fun g hg hne => h.block g hg (by omega)⟩
theorem Turned.of_below (h : Below w.heap.size w w') (lo hi : Nat) : Turned lo hi w w' := ⟨h.os, h.tape, h.output, h.size, fun g hg _ => h.block g hg⟩
theorem Turned.below (h : Turned lo hi w w') (h1 : B ≤ lo) (h2 : B ≤ w.heap.size) : Below B w w' := ⟨h.os, h.tape, h.output, h.size, fun g hg => h.block g (by omega) (.inl (by omega))⟩
theorem Turned.setCell (h : Turned lo hi w w') {p : Addr} (h1 : lo ≤ p.block) (h2 : p.block < hi) (u : Value) : Turned lo hi w (w'.setCell p u) :=
  ⟨h.os, h.tape, h.output, by simpa [World.setCell] using h.size, fun g hg hne => (Below.heap_setCell w' p u g (by omega)).trans (h.block g hg hne)⟩
theorem Turned.grown {row : Option Nat} (h : Turned lo hi w w') (hg : w'.grownBy w'' row) (hr : ∀ g, row = some g → lo ≤ g ∧ g < hi) : Turned lo hi w w'' :=
  h.trans ⟨hg.os, hg.tape, hg.output, hg.size, fun g hgs hne => hg.block g hgs (fun e => by have := hr g e.symm; omega)⟩
theorem Own.turned (h : Own w lo hi e sz A n c xs) (ht : Turned l2 h2 w w') (hd : hi ≤ l2 ∨ h2 ≤ lo) (hs : hi ≤ w.heap.size) : Own w' lo hi e sz A n c xs :=
  h.keep fun g h1 h2 => ht.block g (by omega) (by omega)
theorem Rd.turned (h : Rd w sz A n c xs) (hA : ∀ g, blk A = some g → g < B) (ht : Turned l2 h2 w w') (hB : B ≤ l2) : Rd w' sz A n c xs :=
  h.keep fun _ g hg hlt => ht.block g hlt (.inl (by have := hA g hg; omega))
theorem cell_turned {b o : Nat} {v : Value} (h : w.cell? ⟨b, o, none⟩ = some v) (ht : Turned l2 h2 w w') (hd : b < l2 ∨ h2 ≤ b) : w'.cell? ⟨b, o, none⟩ = some v :=
  (World.cell?_of_block (a := ⟨b, o, none⟩) (ht.block b (World.block_lt_of_cell? w _ h) hd)).trans h
theorem own_empty (w : World) (lo H : Nat) (e : TypeId) (sz : Nat) (hH : w.heap.size = H) (h : lo ≤ H) : (w.alloc (.cells #[] e)).ownsRow lo e sz (.slice (some ⟨H, 0, none⟩) 0 0) 0 [] := by
  subst hH
  exact World.ownsRow_lit w #[] 0 h (by unfold maxLen; omega) (by simp)
end

/-- copy of a whole slice onto a row of the call's own of the same length -/
theorem wpl_copy {P : Program} (w : World) {ops : Array Oper} {rest : List Oper} {o : Oper} {a : Act} {Q : Exit → Act → World → Prop} (hgd : o.guard = none) (d s : Operand) (dT sT : TypeId)
    (ho : o.op = .call { callee := .builtin .copy, args := #[d, s], argTypes := #[dT, sT] })
    (elem : TypeId) (i : TypeInfo) (sz : Nat) (hu : P.underlying dT = some (.slice elem)) (hi : P.info? elem = some i) (hsz : i.size = sz)
    (base : Nat) (e : TypeId) (g n c : Nat) (xs : List Value) (hd : a.eval d = .slice (some ⟨g, 0, none⟩) n c) (hown : w.ownsRow base e sz (.slice (some ⟨g, 0, none⟩) n c) n xs)
    (B : Option Addr) (m : Nat) (news : List Value) (hs : a.eval s = .slice B n m) (hr : Rd w sz B n m news) (h1 : ∀ u ∈ news, u.oneCell' = true)
    (hK : ∀ w', w'.ownsRow base e sz (.slice (some ⟨g, 0, none⟩) n c) n news → w.grownBy w' (some g) → wpList P ops Q rest (a.put o.dst (goInt n)) w') :
    wpList P ops Q (o :: rest) a w := by
  refine wpList_plain hgd fun K hK' => ?_
  have main : ∃ w', (Builtin.copy_ #[dT, sT] o.type #[.slice (some ⟨g, 0, none⟩) n c, .slice B n m]).run P w = .ok (goInt n) w' ∧ w'.ownsRow base e sz (.slice (some ⟨g, 0, none⟩) n c) n news ∧ w.grownBy w' (some g) := by
    obtain ⟨r1, r2, r3, r4, r5⟩ := hr
    rcases hown.2 with ⟨hv, _⟩ | ⟨g', cap, cur, hv, hb, hg, hnc, hcm, hcs, htake⟩
    · simp at hv
    · simp only [Value.slice.injEq, Option.some.injEq, Addr.mk.injEq, and_true, true_and] at hv
      obtain ⟨rfl, rfl⟩ := hv
      have hfit : n * sz ≤ cur.size := by rw [hcs]; exact Nat.mul_le_mul_right _ hnc
      have hload : (Builtin.firstCells sz n (.slice B n m)).run P w = .ok news.toArray w := by
        cases B with
        | none =>
          have hm : m = 0 := r4 rfl
          have hn : n = 0 := by omega
          subst hm hn
          have : news = [] := List.eq_nil_of_length_eq_zero (by simpa using r1)
          subst this
          rfl
        | some ad =>
          show (loadCells ad (n * sz)).run P w = _
          rw [← r1]
          refine run_loadCells_list w ad news fun j v hj => ?_
          have hjl : j < news.length := (List.getElem?_eq_some_iff.1 hj).1
          obtain ⟨b, o', he, hc⟩ := r5 (by omega)
          injection he with he
          subst he
          have ha : (⟨b, o', none⟩ : Addr).add j = ⟨b, o' + j, none⟩ := by
            unfold Addr.add
            split
            · subst_vars; rfl
            · rfl
          rw [ha, hc j hjl, hj]
      have hst := run_storeCells_at P g 0 e news 0 cur w hg (by rw [r1]; simpa using hfit) h1
      refine ⟨w.setRow g (cur.toList.take (0 + 0) ++ news ++ cur.toList.drop (0 + 0 + news.length)).toArray, ?_, ⟨r1, .inr ⟨g, c, (cur.toList.take (0 + 0) ++ news ++ cur.toList.drop (0 + 0 + news.length)).toArray, rfl, hb, setRow_heap w g cur _ e _ hg, hnc, hcm, ?_, ?_⟩⟩, ?_⟩
      · simp [Builtin.copy_, run_underlying hu, Builtin.lenOf, sizeOf, typeInfo, hi, hsz, hload, hst]
      · simp; omega
      · simp [r1]
      · exact ⟨rfl, rfl, rfl, by simp [World.setRow], fun k hk hne => setRow_other w g k _ (fun e => hne (by rw [e]))⟩
  obtain ⟨w', hrun, h2, h3⟩ := main
  unfold Oper.wp
  simp only [execOp, ho, resolve, invoke, builtin, Sem.run_bind, Sem.run_pure, Result.andThen_ok, List.map_toArray, List.map_cons, List.map_nil, hd, hs, hrun]
  exact hK' _ _ (hK w' h2 h3)
end Go.Proofs.Ythdieeaegplnmaa.Own

/- Two words for regions that draw their order, walked operation by operation. -/
namespace Go.Proofs.Ythdieeaegplnmaa.Reg
open Go.RowKit
theorem get {ops : Array Oper} {i : Nat} {o : Oper} {l : List Oper} (h : ops.toList.drop i = o :: l) : ops[i]? = some o := by
  rw [← Array.getElem?_toList]
  have : ops.toList[i]? = (ops.toList.drop i)[0]? := by rw [List.getElem?_drop, Nat.add_zero]
  rw [this, h]
  rfl
theorem tkA {P : Program} {ops : Array Oper} {Q : Exit → Act → World → Prop} {md : Region.Mode} {S : World → Prop} {oi : Oper} {v : Value} {fuel : Nat} {listed : Array Bool} {a : Act} {w : World} (i : Nat) (hi : ops[i]? = some oi) (hS : S w)
    (h : wpAnyH P md ops Q S fuel (listed.setIfInBounds i true) (a.put oi.dst v) w)
    (hv : ∀ w, S w → (execOp a.eval oi).run P w = .ok (.value v) w := by (intro wq hSw; (try dsimp only at hSw); go_simp <;> with_reducible rfl))
    (hg : Region.wanted oi (yielded ops a.tmps) = true := by rfl)
    (hs : Region.noSelect ops = true := by kernel_rfl) (hf : Region.free md ops listed i = true := by kernel_rfl) (hr : (Region.ready md ops listed).contains i = true := by kernel_rfl)
    (hQ : ∀ c a w, Q (.panic c) (a.put oi.dst v) w → Q (.panic c) a w := by exact fun _ _ _ h => h) : wpAnyH P md ops Q S (fuel + 1) listed a w :=
  wpAnyH_take hi hs hf hr hQ (Or.inl ⟨hg, hv⟩) hS h
theorem tkC {P : Program} {ops : Array Oper} {Q : Exit → Act → World → Prop} {md : Region.Mode} {S : World → Prop} {oi : Oper} {fuel : Nat} {listed : Array Bool} {a : Act} {w : World} (i : Nat) (v : Value) (hi : ops[i]? = some oi)
    (hv : ∀ w, S w → (execOp a.eval oi).run P w = .ok (.value v) w) (hS : S w)
    (h : wpAnyH P md ops Q S fuel (listed.setIfInBounds i true) (a.put oi.dst v) w)
    (hg : Region.wanted oi (yielded ops a.tmps) = true := by rfl)
    (hs : Region.noSelect ops = true := by kernel_rfl) (hf : Region.free md ops listed i = true := by kernel_rfl) (hr : (Region.ready md ops listed).contains i = true := by kernel_rfl)
    (hQ : ∀ c a w, Q (.panic c) (a.put oi.dst v) w → Q (.panic c) a w := by exact fun _ _ _ h => h) : wpAnyH P md ops Q S (fuel + 1) listed a w :=
  wpAnyH_take hi hs hf hr hQ (Or.inl ⟨hg, hv⟩) hS h
theorem tkB {P : Program} {ops : Array Oper} {Q : Exit → Act → World → Prop} {md : Region.Mode} {S : World → Prop} {oi : Oper} {fuel : Nat} {listed : Array Bool} {a : Act} {w : World} (i : Nat) (hi : ops[i]? = some oi) (hS : S w)
    (h : wpAnyH P md ops Q S fuel (listed.setIfInBounds i true) (a.put oi.dst undef) w)
    (hg : Region.wanted oi (yielded ops a.tmps) = false := by rfl)
    (hs : Region.noSelect ops = true := by kernel_rfl) (hf : Region.free md ops listed i = true := by kernel_rfl) (hr : (Region.ready md ops listed).contains i = true := by kernel_rfl)
    (hQ : ∀ c a w, Q (.panic c) (a.put oi.dst undef) w → Q (.panic c) a w := by exact fun _ _ _ h => h) : wpAnyH P md ops Q S (fuel + 1) listed a w :=
  wpAnyH_take hi hs hf hr hQ (Or.inr ⟨hg, rfl⟩) hS h
end Go.Proofs.Ythdieeaegplnmaa.Reg

/- Contracts of the laws' helpers on slices of numbers: a copy in new memory; the comparison of two slices that read the same. -/
namespace Go.Proofs.Ythdieeaegplnmaa.Sls
open Go.RowKit
open Go.Proofs.Ythdieeaegplnmaa.Num Go.Proofs.Ythdieeaegplnmaa.Mem Go.Proofs.Ythdieeaegplnmaa.Hsh

theorem row_at {k : Nat} {zs : List Int} {Z : List Value} {f : Int → Value} (h1 : k < zs.length) (h2 : k < Z.length) : ((zs.take k).map f ++ Z.drop k)[k]? = some (Z.getD k (.int .i64 0)) := by
  rw [List.getElem?_append_right (by simp; omega)]
  simp [List.getD, h2, Nat.min_eq_left (Nat.le_of_lt h1)]
theorem row_step {k : Nat} {zs : List Int} {Z : List Value} {f : Int → Value} (h1 : k < zs.length) (h2 : k < Z.length) : ((zs.take k).map f ++ Z.drop k).set k (f (zs.getD k 0)) = (zs.take (k + 1)).map f ++ Z.drop (k + 1) := by
  rw [List.set_append_right _ _ (by simp; omega), take_snoc zs k h1, List.map_append, List.append_assoc]
  congr 1
  rw [List.length_map, List.length_take, Nat.min_eq_left (Nat.le_of_lt h1), Nat.sub_self, List.drop_eq_getElem_cons h2]
  rfl
theorem u8Info : (Try.prog.info? 5).map (fun i => (i.zero, i.size, i.bytes)) = some (some (.int .u8 0), 1, 1) := by kernel_rfl
set_option maxHeartbeats 1000000 in
theorem toByteS_any (A : Option Addr) (n c : Nat) (zs : List Int) (w : World) (hr : Rd w 1 A n c (zs.map (Value.int .u8))) (hn : n ≤ 2097152) :
    Calls Try.prog 12 #[.slice A n c] w (RetOwn w 5 1 n (zs.map (Value.int .u8))) := by
  obtain ⟨i0, hi, hz0, hz1, hz2⟩ := info_parts u8Info
  have hl := Lib.hid (len_ints hr)
  have HR := Lib.hid hr
  clear hr
  go_enter Try.func12, Try.ntmps12
  go_wp2_with (at_make; refine wpList_make_full _ rfl _ _ 25 rfl w.heap.size 5 i0 (.int .u8 0) 1 Try.underlying25 hi hz0 hz1 _ _ _ _ n rfl rfl rfl rfl ?b2 ?b3 (Nat.le_refl _) ?_)
  case b2 => rw [hz2]; omega
  case b3 => unfold maxLen; omega
  intro w0 hown0 hgrow0
  have hb0 : Below w.heap.size w w0 := (Below.refl _ _).grown hgrow0 (Nat.le_refl _) (fun k h => by cases h)
  clear hgrow0
  have hz' : ((madeCells #[Value.int IntKind.u8 0] n).toList).length = n := by simp [size_madeCells]
  generalize (madeCells #[Value.int IntKind.u8 0] n).toList = Z at hown0 hz'
  have HZ := Lib.hid hz'
  have HO := Lib.hid hown0
  clear hz' hown0
  go_wp2
  go_loopw [4] (fun v4 wr => ∃ k : Nat, k ≤ n ∧ v4 = .int .i64 (k : Int) ∧ wr.ownsRow w.heap.size 5 1 (.slice (some ⟨w.heap.size, 0, none⟩) n n) n ((zs.take k).map (Value.int .u8) ++ Z.drop k) ∧ Below w.heap.size w wr) (fun v4 _ => n - (intOf v4).toNat)
  case atStart => exact ⟨0, Nat.zero_le _, rfl, HO.out, hb0⟩
  case round =>
    obtain ⟨k, hk, rfl, hown, hbr⟩ := hrel
    by_cases hlt : k < n
    · obtain ⟨g, o, rfl, hg, hc0⟩ := HR.out.int_at hlt
      have hc := (hbr.cell (p := ⟨g, o + k, none⟩) hg).trans hc0
      have hcell := hown.cellAt k (by omega)
      have hfr := hown.frozenAt k
      have hst := Lib.hid (hown.stored k (.int .u8 (zs.getD k 0)))
      have hsp := Lib.hid (row_step (k := k) (zs := zs) (Z := Z) (f := Value.int .u8) (by rw [hl.out]; exact hlt) (by rw [HZ.out]; exact hlt))
      rw [row_at (by rw [hl.out]; exact hlt) (by rw [HZ.out]; exact hlt)] at hcell
      generalize zs.getD k 0 = z at hc hst hsp
      obtain ⟨u, hu⟩ : ∃ u, Z.getD k (.int .i64 0) = u := ⟨_, rfl⟩
      rw [hu] at hcell
      have hbs := Lib.hid (hbr.setCell (p := ⟨w.heap.size, k, none⟩) (Nat.le_refl _) (.int .u8 z))
      clear hown hu hc0 hbr hb0
      go_wp2
      go_roundw
      case rel => exact ⟨k + 1, by omega, by go_num, by rw [← hsp.out]; exact hst.out.1, hbs.out⟩
      case measure => simp [intOf]; omega
    · obtain rfl : k = n := by omega
      have HA := Lib.hid (show (zs.take k).map (Value.int .u8) ++ Z.drop k = zs.map (Value.int .u8) by rw [List.take_of_length_le (by rw [hl.out]; exact Nat.le_refl _), List.drop_of_length_le (by rw [HZ.out]; exact Nat.le_refl _), List.append_nil])
      have HW := Lib.hid hown
      clear hown
      go_wp2
      go_ret
      exact ⟨_, _, rfl, by have h := HW.out; rw [HA.out] at h; exact h, hbr⟩
/-- the answer of a comparison; all that was there is as it was -/
def Says (b : Prop) [Decidable b] (w : World) (e : Ending) (w' : World) : Prop := e = .returned (.bool (decide b)) ∧ Below w.heap.size w w'
theorem says_yes {b : Prop} [Decidable b] {w w' : World} (h : b) (hb : Below w.heap.size w w') : Says b w (.returned (.bool true)) w' := ⟨by rw [decide_eq_true h], hb⟩
theorem says_no {b : Prop} [Decidable b] {w w' : World} (h : ¬ b) (hb : Below w.heap.size w w') : Says b w (.returned (.bool false)) w' := ⟨by rw [decide_eq_false h], hb⟩
theorem below_drewN {B : Nat} {a w : World} (h : Below B a w) (k : Nat) : Below B a (w.drewN k) := ⟨h.os, h.tape, h.output, h.size, h.block⟩
theorem eq_step {xs ys : List Int} {k : Nat} (h1 : k < xs.length) (h2 : k < ys.length) (h : xs.take k = ys.take k) (he : xs.getD k 0 = ys.getD k 0) : xs.take (k + 1) = ys.take (k + 1) := by
  rw [take_snoc xs k h1, take_snoc ys k h2, h, he]
theorem neq_at {xs ys : List Int} {k : Nat} (h : ¬ xs.getD k 0 = ys.getD k 0) : ¬ xs = ys := fun e => h (by rw [e])
set_option maxRecDepth 100000 in
set_option maxHeartbeats 1000000 in
theorem eqByteS_laws (A : Option Addr) (n c : Nat) (xs : List Int) (B : Option Addr) (m d : Nat) (ys : List Int) (w : World) (hx : Rd w 1 A n c (xs.map (Value.int .u8))) (hy : Rd w 1 B m d (ys.map (Value.int .u8))) :
    Calls Try.prog 15 #[.slice A n c, .slice B m d] w (Says (xs = ys) w) := by
  have hl := Lib.hid (len_ints hx)
  have hk := Lib.hid (len_ints hy)
  have hn : n ≤ 9223372036854775807 := by have h1 := hx.2.1; have h2 := hx.2.2.1; unfold maxLen at h2; omega
  have HX := Lib.hid hx
  have HY := Lib.hid hy
  clear hx hy
  by_cases hnm : n = m
  · obtain rfl : m = n := hnm.symm
    go_enter Try.func15, Try.ntmps15
    go_wp2
    go_loopw [5] (fun v5 wr => ∃ k : Nat, k ≤ m ∧ v5 = .int .i64 (k : Int) ∧ xs.take k = ys.take k ∧ Below w.heap.size w wr) (fun v5 _ => m - (intOf v5).toNat)
    case atStart => exact ⟨0, Nat.zero_le _, rfl, rfl, Below.refl _ _⟩
    case round =>
      obtain ⟨k, hkm, rfl, heq, hbr⟩ := hrel
      have HE := Lib.hid heq
      clear heq
      by_cases hlt : k < m
      · obtain ⟨g, o, rfl, hg, hcx⟩ := (HX.out.below hbr).int_at hlt
        obtain ⟨g2, o2, rfl, hg2, hcy⟩ := (HY.out.below hbr).int_at hlt
        have HB := Lib.hid hbr
        clear hbr
        have HS := Lib.hid (fun he => eq_step (k := k) (by rw [hl.out]; exact hlt) (by rw [hk.out]; exact hlt) HE.out he)
        have HN := Lib.hid (fun hne => neq_at (k := k) (xs := xs) (ys := ys) hne)
        generalize xs.getD k 0 = x at hcx HS HN
        generalize ys.getD k 0 = y at hcy HS HN
        by_cases hxy : x = y
        · have HY2 := Lib.hid (HS.out hxy)
          have h1 : (x == y) = true := by simpa using hxy
          have h2 : (x != y) = false := by simpa using hxy
          clear hxy HS HN
          go_wp2
          go_quiet (fail)
          go_wp2
          go_roundw
          case rel => exact ⟨k + 1, by omega, by go_num, HY2.out, below_drewN HB.out _⟩
          case measure => simp [intOf]; omega
        · have HN2 := Lib.hid (HN.out hxy)
          have h1 : (x == y) = false := by simpa using hxy
          have h2 : (x != y) = true := by simpa using hxy
          clear hxy HS HN
          go_wp2
          go_quiet (fail)
          go_wp2
          go_ret
          exact says_no HN2.out (below_drewN HB.out _)
      · have HA := Lib.hid (show xs = ys by
          have h := HE.out
          rw [List.take_of_length_le (by rw [hl.out]; omega), List.take_of_length_le (by rw [hk.out]; omega)] at h
          exact h)
        have HB := Lib.hid hbr
        clear hbr
        go_wp2
        go_ret
        exact says_yes HA.out HB.out
  · have h1 : ((n : Int) == (m : Int)) = false := by rw [beq_eq_false_iff_ne]; omega
    have h2 : ((n : Int) != (m : Int)) = true := by rw [bne_iff_ne]; omega
    have hne := Lib.hid (show ¬ xs = ys from fun e => hnm (by rw [← hl.out, ← hk.out, e]))
    clear hnm
    go_enter Try.func15, Try.ntmps15
    go_wp2
    go_ret
    exact says_no hne.out (Below.refl _ _)
set_option maxRecDepth 100000 in
set_option maxHeartbeats 1000000 in
theorem sameBytes_laws (A : Option Addr) (n c : Nat) (xs : List Int) (B : Option Addr) (m d : Nat) (ys : List Int) (w : World) (hx : Rd w 1 A n c (xs.map (Value.int .u8))) (hy : Rd w 1 B m d (ys.map (Value.int .u8))) :
    Calls Try.prog 50 #[.slice A n c, .slice B m d] w (Says (xs = ys) w) := by
  have hl := Lib.hid (len_ints hx)
  have hk := Lib.hid (len_ints hy)
  have hn : n ≤ 9223372036854775807 := by have h1 := hx.2.1; have h2 := hx.2.2.1; unfold maxLen at h2; omega
  have HX := Lib.hid hx
  have HY := Lib.hid hy
  clear hx hy
  by_cases hnm : n = m
  · obtain rfl : m = n := hnm.symm
    go_enter Try.func50, Try.ntmps50
    go_wp2
    go_loopw [5] (fun v5 wr => ∃ k : Nat, k ≤ m ∧ v5 = .int .i64 (k : Int) ∧ xs.take k = ys.take k ∧ Below w.heap.size w wr) (fun v5 _ => m - (intOf v5).toNat)
    case atStart => exact ⟨0, Nat.zero_le _, rfl, rfl, Below.refl _ _⟩
    case round =>
      obtain ⟨k, hkm, rfl, heq, hbr⟩ := hrel
      have HE := Lib.hid heq
      clear heq
      by_cases hlt : k < m
      · obtain ⟨g, o, rfl, hg, hcx⟩ := (HX.out.below hbr).int_at hlt
        obtain ⟨g2, o2, rfl, hg2, hcy⟩ := (HY.out.below hbr).int_at hlt
        have HB := Lib.hid hbr
        clear hbr
        have HS := Lib.hid (fun he => eq_step (k := k) (by rw [hl.out]; exact hlt) (by rw [hk.out]; exact hlt) HE.out he)
        have HN := Lib.hid (fun hne => neq_at (k := k) (xs := xs) (ys := ys) hne)
        generalize xs.getD k 0 = x at hcx HS HN
        generalize ys.getD k 0 = y at hcy HS HN
        by_cases hxy : x = y
        · have HY2 := Lib.hid (HS.out hxy)
          have h1 : (x == y) = true := by simpa using hxy
          have h2 : (x != y) = false := by simpa using hxy
          clear hxy HS HN
          go_wp2
          go_quiet (fail)
          go_wp2
          go_roundw
          case rel => exact ⟨k + 1, by omega, by go_num, HY2.out, below_drewN HB.out _⟩
          case measure => simp [intOf]; omega
        · have HN2 := Lib.hid (HN.out hxy)
          have h1 : (x == y) = false := by simpa using hxy
          have h2 : (x != y) = true := by simpa using hxy
          clear hxy HS HN
          go_wp2
          go_quiet (fail)
          go_wp2
          go_ret
          exact says_no HN2.out (below_drewN HB.out _)
      · have HA := Lib.hid (show xs = ys by
          have h := HE.out
          rw [List.take_of_length_le (by rw [hl.out]; omega), List.take_of_length_le (by rw [hk.out]; omega)] at h
          exact h)
        have HB := Lib.hid hbr
        clear hbr
        go_wp2
        go_ret
        exact says_yes HA.out HB.out
  · have h1 : ((n : Int) == (m : Int)) = false := by rw [beq_eq_false_iff_ne]; omega
    have h2 : ((n : Int) != (m : Int)) = true := by rw [bne_iff_ne]; omega
    have hne := Lib.hid (show ¬ xs = ys from fun e => hnm (by rw [← hl.out, ← hk.out, e]))
    clear hnm
    go_enter Try.func50, Try.ntmps50
    go_wp2
    go_ret
    exact says_no hne.out (Below.refl _ _)
set_option maxRecDepth 100000 in
set_option maxHeartbeats 1000000 in
theorem EqualBytes_impl (A : Option Addr) (n c : Nat) (xs : List Int) (B : Option Addr) (m d : Nat) (ys : List Int) (w : World) (hx : Rd w 1 A n c (xs.map (Value.int .u8))) (hy : Rd w 1 B m d (ys.map (Value.int .u8))) :
    Calls Try.prog 97 #[.slice A n c, .slice B m d] w (Says (xs = ys) w) := by
  have hl := Lib.hid (len_ints hx)
  have hk := Lib.hid (len_ints hy)
  have hn : n ≤ 9223372036854775807 := by have h1 := hx.2.1; have h2 := hx.2.2.1; unfold maxLen at h2; omega
  have HX := Lib.hid hx
  have HY := Lib.hid hy
  clear hx hy
  by_cases hnm : n = m
  · obtain rfl : m = n := hnm.symm
    go_enter Try.func97, Try.ntmps97
    go_wp2
    go_loopw [13] (fun v5 wr => ∃ k : Nat, k ≤ m ∧ v5 = .int .i64 (k : Int) ∧ xs.take k = ys.take k ∧ Below w.heap.size w wr) (fun v5 _ => m - (intOf v5).toNat)
    case atStart => exact ⟨0, Nat.zero_le _, rfl, rfl, Below.refl _ _⟩
    case round =>
      obtain ⟨k, hkm, rfl, heq, hbr⟩ := hrel
      have HE := Lib.hid heq
      clear heq
      by_cases hlt : k < m
      · obtain ⟨g, o, rfl, hg, hcx⟩ := (HX.out.below hbr).int_at hlt
        obtain ⟨g2, o2, rfl, hg2, hcy⟩ := (HY.out.below hbr).int_at hlt
        have HB := Lib.hid hbr
        clear hbr
        have HS := Lib.hid (fun he => eq_step (k := k) (by rw [hl.out]; exact hlt) (by rw [hk.out]; exact hlt) HE.out he)
        have HN := Lib.hid (fun hne => neq_at (k := k) (xs := xs) (ys := ys) hne)
        generalize xs.getD k 0 = x at hcx HS HN
        generalize ys.getD k 0 = y at hcy HS HN
        by_cases hxy : x = y
        · have HY2 := Lib.hid (HS.out hxy)
          have h1 : (x == y) = true := by simpa using hxy
          have h2 : (x != y) = false := by simpa using hxy
          clear hxy HS HN
          go_wp2
          go_quiet (fail)
          go_wp2
          go_roundw
          case rel => exact ⟨k + 1, by omega, by go_num, HY2.out, below_drewN HB.out _⟩
          case measure => simp [intOf]; omega
        · have HN2 := Lib.hid (HN.out hxy)
          have h1 : (x == y) = false := by simpa using hxy
          have h2 : (x != y) = true := by simpa using hxy
          clear hxy HS HN
          go_wp2
          go_quiet (fail)
          go_wp2
          go_ret
          exact says_no HN2.out (below_drewN HB.out _)
      · have HA := Lib.hid (show xs = ys by
          have h := HE.out
          rw [List.take_of_length_le (by rw [hl.out]; omega), List.take_of_length_le (by rw [hk.out]; omega)] at h
          exact h)
        have HB := Lib.hid hbr
        clear hbr
        go_wp2
        go_ret
        exact says_yes HA.out HB.out
  · have h1 : ((n : Int) == (m : Int)) = false := by rw [beq_eq_false_iff_ne]; omega
    have h2 : ((n : Int) != (m : Int)) = true := by rw [bne_iff_ne]; omega
    have hne := Lib.hid (show ¬ xs = ys from fun e => hnm (by rw [← hl.out, ← hk.out, e]))
    clear hnm
    go_enter Try.func97, Try.ntmps97
    go_wp2
    go_ret
    exact says_no hne.out (Below.refl _ _)
end Go.Proofs.Ythdieeaegplnmaa.Sls

/- Slices of byte slices: what they read as; the laws' helpers on them (conversion, size, comparison). -/
namespace Go.Proofs.Ythdieeaegplnmaa.SS
open Go.RowKit
open Go.Proofs.Ythdieeaegplnmaa.Num Go.Proofs.Ythdieeaegplnmaa.Mem Go.Proofs.Ythdieeaegplnmaa.Hsh Go.Proofs.Ythdieeaegplnmaa.Sls Go.Proofs.Ythdieeaegplnmaa.Own
set_option linter.unusedSimpArgs false

/-- the slice value '.slice A n c' reads as the byte strings xss -/
def RdSS (w : World) (A : Option Addr) (n c : Nat) (xss : List (List Int)) : Prop :=
  xss.length = n ∧ n ≤ c ∧ c ≤ maxLen ∧
  (0 < n → ∃ g o, A = some ⟨g, o, none⟩ ∧ ∀ j, j < n → ∃ A' n' c', w.cell? ⟨g, o + j, none⟩ = some (.slice A' n' c') ∧ Rd w 1 A' n' c' ((xss.getD j []).map (Value.int .u8)))
theorem RdSS.at_ {w : World} {A : Option Addr} {n c k : Nat} {xss : List (List Int)} (h : RdSS w A n c xss) (hk : k < n) :
    ∃ g o A' n' c', A = some ⟨g, o, none⟩ ∧ g < w.heap.size ∧ w.cell? ⟨g, o + k, none⟩ = some (.slice A' n' c') ∧ Rd w 1 A' n' c' ((xss.getD k []).map (Value.int .u8)) := by
  obtain ⟨g, o, rfl, hc⟩ := h.2.2.2 (by omega)
  obtain ⟨A', n', c', h1, h2⟩ := hc k hk
  exact ⟨g, o, A', n', c', rfl, World.block_lt_of_cell? _ _ h1, h1, h2⟩
theorem RdSS.keep {w w' : World} {A : Option Addr} {n c : Nat} {xss : List (List Int)} (h : RdSS w A n c xss) (hk : ∀ g, g < w.heap.size → w'.heap[g]? = w.heap[g]?) : RdSS w' A n c xss := by
  obtain ⟨h1, h2, h3, h4⟩ := h
  refine ⟨h1, h2, h3, fun hp => ?_⟩
  obtain ⟨g, o, rfl, hc⟩ := h4 hp
  refine ⟨g, o, rfl, fun j hj => ?_⟩
  obtain ⟨A', n', c', k1, k2⟩ := hc j hj
  exact ⟨A', n', c', (World.cell?_of_block (a := ⟨g, o + j, none⟩) (hk g (World.block_lt_of_cell? _ _ k1))).trans k1, k2.keep fun _ g' _ hlt => hk g' hlt⟩
theorem RdSS.below {w w' : World} {A : Option Addr} {n c : Nat} {xss : List (List Int)} (h : RdSS w A n c xss) (hb : Below w.heap.size w w') : RdSS w' A n c xss := h.keep fun g hg => hb.block g hg
theorem RdSS.alloc {w : World} {A : Option Addr} {n c : Nat} {xss : List (List Int)} (h : RdSS w A n c xss) (o : Obj) : RdSS (w.alloc o) A n c xss := h.keep fun g hg => Below.heap_alloc w o g hg
theorem RdSS.drewN {w : World} {A : Option Addr} {n c : Nat} {xss : List (List Int)} (h : RdSS w A n c xss) (k : Nat) : RdSS (w.drewN k) A n c xss := h.keep fun _ _ => rfl

abbrev Sl := Option Addr × Nat × Nat
def sl (s : Sl) : Value := .slice s.1 s.2.1 s.2.2
def nth (ss : List Sl) (i : Nat) : Sl := ss.getD i (none, 0, 0)
/-- the first k of the slices ss are one's own, in blocks of their own, and read as the byte strings -/
def InSS (w : World) (lo hi : Nat) (ss : List Sl) (xss : List (List Int)) (k : Nat) : Prop :=
  (∀ i, i < k → Own w lo hi 5 1 (nth ss i).1 (nth ss i).2.1 (nth ss i).2.2 ((xss.getD i []).map (Value.int .u8))) ∧
  ∀ i j, i < j → j < k → ∀ g, blk (nth ss i).1 = some g → blk (nth ss j).1 ≠ some g
/-- the slice and all that it holds is one's own, from block lo on and below hi, and reads as xss -/
def OwnSS (w : World) (lo hi : Nat) (A : Option Addr) (n c : Nat) (xss : List (List Int)) : Prop :=
  xss.length = n ∧ ∃ ss : List Sl, ss.length = n ∧ Own w lo hi 25 1 A n c (ss.map sl) ∧ InSS w lo hi ss xss n
theorem InSS.keep {w w' : World} {lo hi : Nat} {ss : List Sl} {xss : List (List Int)} {k : Nat} (h : InSS w lo hi ss xss k) (hk : ∀ g, lo ≤ g → g < hi → w'.heap[g]? = w.heap[g]?) : InSS w' lo hi ss xss k :=
  ⟨fun i hi' => (h.1 i hi').keep hk, h.2⟩
theorem InSS.wider {w : World} {lo hi l2 h2 : Nat} {ss : List Sl} {xss : List (List Int)} {k : Nat} (h : InSS w lo hi ss xss k) (hl : l2 ≤ lo) (hh : hi ≤ h2) : InSS w l2 h2 ss xss k :=
  ⟨fun i hi' => (h.1 i hi').wider hl hh, h.2⟩
theorem OwnSS.keep {w w' : World} {lo hi : Nat} {A : Option Addr} {n c : Nat} {xss : List (List Int)} (h : OwnSS w lo hi A n c xss) (hk : ∀ g, lo ≤ g → g < hi → w'.heap[g]? = w.heap[g]?) : OwnSS w' lo hi A n c xss := by
  obtain ⟨h0, ss, h1, h2, h3⟩ := h
  exact ⟨h0, ss, h1, h2.keep hk, h3.keep hk⟩
theorem OwnSS.below {w w' : World} {lo hi B : Nat} {A : Option Addr} {n c : Nat} {xss : List (List Int)} (h : OwnSS w lo hi A n c xss) (hb : Below B w w') (hB : hi ≤ B) : OwnSS w' lo hi A n c xss := h.keep fun g _ hg => hb.block g (by omega)
theorem OwnSS.turned {w w' : World} {lo hi l2 h2 : Nat} {A : Option Addr} {n c : Nat} {xss : List (List Int)} (h : OwnSS w lo hi A n c xss) (ht : Turned l2 h2 w w') (hd : hi ≤ l2 ∨ h2 ≤ lo) (hs : hi ≤ w.heap.size) : OwnSS w' lo hi A n c xss :=
  h.keep fun g h1 h2 => ht.block g (by omega) (by omega)
theorem OwnSS.wider {w : World} {lo hi l2 h2 : Nat} {A : Option Addr} {n c : Nat} {xss : List (List Int)} (h : OwnSS w lo hi A n c xss) (hl : l2 ≤ lo) (hh : hi ≤ h2) : OwnSS w l2 h2 A n c xss := by
  obtain ⟨h0, ss, h1, k2, h3⟩ := h
  exact ⟨h0, ss, h1, k2.wider hl hh, h3.wider hl hh⟩
theorem nth_map {ss : List Sl} {j : Nat} (hj : j < ss.length) : (ss.map sl)[j]? = some (sl (nth ss j)) := by
  simp [nth, List.getD, hj]
theorem OwnSS.rd {w : World} {lo hi : Nat} {A : Option Addr} {n c : Nat} {xss : List (List Int)} (h : OwnSS w lo hi A n c xss) : RdSS w A n c xss := by
  obtain ⟨h0, ss, h1, h2, h3⟩ := h
  have hr := h2.rd
  refine ⟨h0, hr.2.1, hr.2.2.1, fun hp => ?_⟩
  obtain ⟨g, o, rfl, hc⟩ := hr.2.2.2.2 (by simp; omega)
  refine ⟨g, o, rfl, fun j hj => ⟨(nth ss j).1, (nth ss j).2.1, (nth ss j).2.2, ?_, (h3.1 j hj).rd⟩⟩
  rw [hc j (by simp; omega), nth_map (by omega)]
  rfl

def AllShort (xss : List (List Int)) : Prop := ∀ i, (xss.getD i []).length ≤ 2097152
theorem sl_step {ss : List Sl} {Z : List Value} {k : Nat} (s : Sl) (h1 : ss.length = k) (h2 : k < Z.length) : (ss.map sl ++ Z.drop k).set k (sl s) = (ss ++ [s]).map sl ++ Z.drop (k + 1) := by
  subst h1
  rw [List.set_append_right _ _ (by simp), List.map_append, List.append_assoc]
  congr 1
  rw [List.length_map, Nat.sub_self, List.drop_eq_getElem_cons h2]
  rfl
theorem nth_old {ss : List Sl} {s : Sl} {i : Nat} (h : i < ss.length) : nth (ss ++ [s]) i = nth ss i := by
  simp [nth, List.getD, List.getElem?_append_left h]
theorem nth_new {ss : List Sl} {s : Sl} {k : Nat} (h : ss.length = k) : nth (ss ++ [s]) k = s := by
  subst h; simp [nth, List.getD]
theorem in_step {w : World} {lo hi h2 : Nat} {ss : List Sl} {xss : List (List Int)} {k : Nat} {s : Sl} (h : InSS w lo hi ss xss k) (hl : ss.length = k) (hs : Own w hi h2 5 1 s.1 s.2.1 s.2.2 ((xss.getD k []).map (Value.int .u8))) (hlo : lo ≤ hi) (hh : hi ≤ h2) : InSS w lo h2 (ss ++ [s]) xss (k + 1) := by
  refine ⟨fun i hi' => ?_, fun i j hij hj g hg => ?_⟩
  · rcases Nat.lt_or_ge i k with h3 | h3
    · rw [nth_old (by omega)]; exact (h.1 i h3).wider (Nat.le_refl _) hh
    · obtain rfl : i = k := by omega
      rw [nth_new hl]; exact hs.wider hlo (Nat.le_refl _)
  · rcases Nat.lt_or_ge j k with h3 | h3
    · rw [nth_old (by omega)] at hg ⊢; exact h.2 i j hij h3 g hg
    · obtain rfl : j = k := by omega
      rw [nth_old (by omega)] at hg
      rw [nth_new hl]
      intro e
      have h4 := (h.1 i hij).2 g hg
      have h5 := (blk_of_own hs.1 g e).1
      omega
theorem own_below {w w' : World} {base : Nat} {e : TypeId} {sz : Nat} {v : Value} {n : Nat} {xs : List Value} (h : w.ownsRow base e sz v n xs) (hb : Below w.heap.size w w') : w'.ownsRow base e sz v n xs :=
  h.kept (row := none) ⟨hb.os, hb.tape, hb.output, hb.size, fun k hk _ => hb.block k hk⟩ (by cases hv : v.ownBlock <;> simp)
theorem ssInfo : (Try.prog.info? 25).map (fun i => (i.zero, i.size, i.bytes)) = some (some (.slice none 0 0), 1, 24) := by kernel_rfl
/-- the call hands back a slice of byte slices in new memory -/
def RetSS (w : World) (n : Nat) (xss : List (List Int)) (x : Ending) (w' : World) : Prop :=
  ∃ A c, x = .returned (.slice A n c) ∧ OwnSS w' w.heap.size w'.heap.size A n c xss ∧ Below w.heap.size w w'
set_option maxHeartbeats 1000000 in
theorem toSS_any (A : Option Addr) (n c : Nat) (xss : List (List Int)) (w : World) (hr : RdSS w A n c xss) (hn : n ≤ 2097152) (hs : AllShort xss) :
    Calls Try.prog 59 #[.slice A n c] w (RetSS w n xss) := by
  obtain ⟨i0, hi, hz0, hz1, hz2⟩ := info_parts ssInfo
  have hl := Lib.hid hr.1
  have HR := Lib.hid hr
  have HS := Lib.hid hs
  clear hr hs
  go_enter Try.func59, Try.ntmps59
  go_wp2_with (at_make; refine wpList_make_full _ rfl _ _ 22 rfl w.heap.size 25 i0 (.slice none 0 0) 1 Try.underlying22 hi hz0 hz1 _ _ _ _ n rfl rfl rfl rfl ?b2 ?b3 (Nat.le_refl _) ?_)
  case b2 => rw [hz2]; omega
  case b3 => unfold maxLen; omega
  intro w0 hown0 hgrow0
  have hb0 : Below w.heap.size w w0 := (Below.refl _ _).grown hgrow0 (Nat.le_refl _) (fun k h => by cases h)
  clear hgrow0
  have hz' : ((madeCells #[Value.slice none 0 0] n).toList).length = n := by simp [size_madeCells]
  generalize (madeCells #[Value.slice none 0 0] n).toList = Z at hown0 hz'
  have HZ := Lib.hid hz'
  have HO := Lib.hid hown0
  clear hz' hown0
  go_wp2
  go_loopw [4] (fun v4 wr => ∃ (k : Nat) (ss : List Sl), k ≤ n ∧ v4 = .int .i64 (k : Int) ∧ ss.length = k ∧ wr.ownsRow w.heap.size 25 1 (.slice (some ⟨w.heap.size, 0, none⟩) n n) n (ss.map sl ++ Z.drop k) ∧ InSS wr (w.heap.size + 1) wr.heap.size ss xss k ∧ Below w.heap.size w wr) (fun v4 _ => n - (intOf v4).toNat)
  case atStart => exact ⟨0, [], Nat.zero_le _, rfl, rfl, HO.out, ⟨fun i h => absurd h (by omega), fun i j _ h => absurd h (by omega)⟩, hb0⟩
  case round =>
    obtain ⟨k, ss, hk, rfl, hls, hown, hin, hbr⟩ := hrel
    by_cases hlt : k < n
    · obtain ⟨g, o, A', n', c', rfl, hg, hc, hrd⟩ := (HR.out.below hbr).at_ hlt
      have hn' : n' ≤ 2097152 := by have h1 := HS.out k; have h2 := len_ints hrd; omega
      have HO := Lib.hid hown
      have HI := Lib.hid hin
      have HL := Lib.hid hls
      have hw0 := (hown.lt w.heap.size rfl).2
      have HX := Lib.hid (fun s => sl_step (ss := ss) (Z := Z) (k := k) s hls (by rw [HZ.out]; exact hlt))
      clear hown hin hls
      go_wp2_with fail
      refine (toByteS_any A' n' c' (xss.getD k []) _ hrd hn').mono ?_
      rintro x w1 ⟨A1, c1, rfl, hown1, hb⟩
      have h1 := own_below HO.out hb
      have hfr := h1.frozenAt k
      have hlen := h1.1
      obtain ⟨u, d0⟩ : ∃ u, w1.cell? ⟨w.heap.size, k, none⟩ = some u := ⟨_, by rw [h1.cellAt k (by omega), List.getElem?_eq_getElem (by omega)]⟩
      have HT := Lib.hid ((h1.stored k (sl (A1, n', c1))).1)
      have HB := Lib.hid ((stepB hbr hb hbr.size).setCell (p := ⟨w.heap.size, k, none⟩) (Nat.le_refl _) (sl (A1, n', c1)))
      have hI1 : InSS w1 (w.heap.size + 1) w1.heap.size (ss ++ [(A1, n', c1)]) xss (k + 1) := in_step (s := (A1, n', c1)) (HI.out.keep fun g _ hg => hb.block g hg) HL.out (Own.of hown1) hw0 hb.size
      have HN := Lib.hid (show InSS (w1.setCell ⟨w.heap.size, k, none⟩ (sl (A1, n', c1))) (w.heap.size + 1) (w1.setCell ⟨w.heap.size, k, none⟩ (sl (A1, n', c1))).heap.size (ss ++ [(A1, n', c1)]) xss (k + 1) from (hI1.keep fun g h1 _ => Below.heap_setCell w1 _ _ g (by simp; omega)).wider (Nat.le_refl _) (by simp [World.setCell]))
      have HL2 := Lib.hid (show (ss ++ [(A1, n', c1)]).length = k + 1 by simp [HL.out])
      have HX2 := Lib.hid (HX.out (A1, n', c1))
      clear h1 hlen hown1 hb hbr hb0 hc hrd hI1 HX
      go_wp2
      go_roundw
      case rel => exact ⟨k + 1, ss ++ [(A1, n', c1)], by omega, by go_num, HL2.out, by rw [← HX2.out]; exact HT.out, HN.out, HB.out⟩
      case measure => simp [intOf]; omega
    · obtain rfl : k = n := by omega
      have HA := Lib.hid (show ss.map sl ++ Z.drop k = ss.map sl by rw [List.drop_of_length_le (by rw [HZ.out]; exact Nat.le_refl _), List.append_nil])
      have HW := Lib.hid hown
      have HI := Lib.hid hin
      have HL := Lib.hid hls
      clear hown hin hls
      go_wp2
      go_ret
      exact ⟨_, _, rfl, ⟨hl.out, ss, HL.out, by have h := HW.out; rw [HA.out] at h; exact Own.of h, HI.out.wider (by omega) (Nat.le_refl _)⟩, hbr⟩
def totL (xss : List (List Int)) : Nat := (xss.map List.length).foldl (· + ·) 0
theorem foldl_add (l : List Nat) (a : Nat) : l.foldl (· + ·) a = a + l.foldl (· + ·) 0 := by
  induction l generalizing a with
  | nil => simp
  | cons x l ih => simp only [List.foldl_cons]; rw [ih (a + x), ih (0 + x)]; omega
theorem totL_cons (x : List Int) (xss : List (List Int)) : totL (x :: xss) = x.length + totL xss := by
  unfold totL
  rw [List.map_cons, List.foldl_cons, foldl_add]
  omega
theorem totL_app (xss yss : List (List Int)) : totL (xss ++ yss) = totL xss + totL yss := by
  induction xss with
  | nil => simp [totL]
  | cons x xss ih => rw [List.cons_append, totL_cons, totL_cons, ih]; omega
theorem take_ss {xss : List (List Int)} {k : Nat} (h : k < xss.length) : xss.take (k + 1) = xss.take k ++ [xss.getD k []] := by
  rw [List.take_succ_eq_append_getElem h]
  simp [List.getD, h]
theorem totL_step {xss : List (List Int)} {k : Nat} (h : k < xss.length) : totL (xss.take (k + 1)) = totL (xss.take k) + (xss.getD k []).length := by
  rw [take_ss h, totL_app]
  simp [totL]
theorem totL_le (xss : List (List Int)) (k : Nat) : totL (xss.take k) ≤ totL xss := by
  have := totL_app (xss.take k) (xss.drop k)
  rw [List.take_append_drop] at this
  omega
theorem short_of_tot {xss : List (List Int)} (h : totL xss ≤ 2097152) : AllShort xss := fun i => by
  rcases Nat.lt_or_ge i xss.length with hi | hi
  · have h1 := totL_step hi
    have h2 := totL_le xss (i + 1)
    omega
  · simp [List.getD, List.getElem?_eq_none hi]
theorem szB_any (A : Option Addr) (n c : Nat) (left : Int) (w : World) (h0 : 0 ≤ left) (h1 : left ≤ 1048576) (hn : n ≤ 9223372036854775807) : Calls Try.prog 92 #[.slice A n c, .int .i64 left] w fun x w' => x = .returned (.int .i64 (if left < n then -1 else left - n)) ∧ w = w' := by
  by_cases h : left < n
  · rw [if_pos h]
    go_enter Try.func92, Try.ntmps92
    go_wp2
    go_ret
    exact ⟨rfl, rfl⟩
  · rw [if_neg h]
    go_enter Try.func92, Try.ntmps92
    go_wp2
    go_ret
    exact ⟨rfl, rfl⟩
/-- what is left of a budget behind t, or -1 -/
def szOf (left : Int) (t : Nat) : Int := if left < (t : Int) then -1 else left - (t : Int)
theorem szOf_lt {left : Int} {t : Nat} (h : left < (t : Int)) : szOf left t = -1 := by unfold szOf; rw [if_pos h]
theorem szOf_ge {left : Int} {t : Nat} (h : ¬ left < (t : Int)) : szOf left t = left - (t : Int) := by unfold szOf; rw [if_neg h]
set_option maxHeartbeats 1000000 in
theorem szSS_any (A : Option Addr) (n c : Nat) (xss : List (List Int)) (left : Int) (w : World) (hr : RdSS w A n c xss) (h0 : 0 ≤ left) (h1 : left ≤ 1048576) : Calls Try.prog 57 #[.slice A n c, .int .i64 left] w fun x w' => x = .returned (.int .i64 (szOf left (n + totL xss))) ∧ w = w' := by
  have hl := Lib.hid hr.1
  have hm : n ≤ 9223372036854775807 := by have h1 := hr.2.1; have h2 := hr.2.2.1; unfold maxLen at h2; omega
  have HR := Lib.hid hr
  clear hr
  by_cases h : left < n
  · rw [szOf_lt (by omega)]
    go_enter Try.func57, Try.ntmps57
    go_wp2
    go_ret
    exact ⟨rfl, rfl⟩
  · have HT := Lib.hid (show ∀ k, totL (xss.take k) ≤ totL xss from totL_le xss)
    have HF := Lib.hid (show totL (xss.take n) = totL xss by rw [List.take_of_length_le (by rw [hl.out]; exact Nat.le_refl _)])
    go_enter Try.func57, Try.ntmps57
    go_wp2
    go_loop [1, 5] (fun v1 v5 => ∃ k : Nat, k ≤ n ∧ ((n + totL (xss.take k) : Nat) : Int) ≤ left ∧ v1 = .int .i64 (left - ((n + totL (xss.take k) : Nat) : Int)) ∧ v5 = .int .i64 (k : Int)) (fun _ v5 => n - (intOf v5).toNat)
    case atStart => exact ⟨0, Nat.zero_le _, by simp [totL]; omega, by simp [totL], rfl⟩
    case round =>
      obtain ⟨k, hk, hle, rfl, rfl⟩ := hrel
      by_cases hlt : k < n
      · obtain ⟨g, o, A', n', c', rfl, hg, hc, hrd⟩ := HR.out.at_ hlt
        have HS := Lib.hid (totL_step (xss := xss) (k := k) (by rw [hl.out]; exact hlt))
        have HN := Lib.hid (len_ints hrd)
        have hm' : n' ≤ 9223372036854775807 := by have h1 := hrd.2.1; have h2 := hrd.2.2.1; unfold maxLen at h2; omega
        have HQ := Lib.hid (HT.out (k + 1))
        clear hrd
        by_cases hx : left - ((n + totL (xss.take k) : Nat) : Int) < n'
        · have HG := Lib.hid (show left < ((n + totL xss : Nat) : Int) by have h1 := HS.out; have h2 := HN.out; have h3 := HQ.out; rw [h2] at h1; omega)
          have HZ := Lib.hid (szB_any A' n' c' (left - ((n + totL (xss.take k) : Nat) : Int)))
          have g0 : 0 ≤ left - ((n + totL (xss.take k) : Nat) : Int) := by omega
          have g1 : left - ((n + totL (xss.take k) : Nat) : Int) ≤ 1048576 := by omega
          generalize left - ((n + totL (xss.take k) : Nat) : Int) = L at *
          go_wp2_with (first | (go_at_call 92; refine (HZ.out _ g0 g1 hm').mono ?_; rintro x w' ⟨rfl, rfl⟩; rw [if_pos hx]))
          go_ret
          exact ⟨by rw [szOf_lt (by have := HG.out; omega)]; rfl, rfl⟩
        · have HZ := Lib.hid (szB_any A' n' c' (left - ((n + totL (xss.take k) : Nat) : Int)))
          have g0 : 0 ≤ left - ((n + totL (xss.take k) : Nat) : Int) := by omega
          have g1 : left - ((n + totL (xss.take k) : Nat) : Int) ≤ 1048576 := by omega
          have HE := Lib.hid (show left - ((n + totL (xss.take (k + 1)) : Nat) : Int) = left - ((n + totL (xss.take k) : Nat) : Int) - (n' : Int) by have h1 := HS.out; have h2 := HN.out; rw [h2] at h1; omega)
          have HL := Lib.hid (show ((n + totL (xss.take (k + 1)) : Nat) : Int) ≤ left by have h1 := HS.out; have h2 := HN.out; rw [h2] at h1; omega)
          have g2 : 0 ≤ left - ((n + totL (xss.take k) : Nat) : Int) - (n' : Int) := by omega
          generalize left - ((n + totL (xss.take k) : Nat) : Int) = L at *
          go_wp2_with (first | (go_at_call 92; refine (HZ.out _ g0 g1 hm').mono ?_; rintro x w' ⟨rfl, rfl⟩; rw [if_neg hx]))
          go_round
          case rel => exact ⟨k + 1, by omega, HL.out, by rw [HE.out], by go_num⟩
          case measure => simp [intOf]; omega
      · obtain rfl : k = n := by omega
        have HG := Lib.hid (show ¬ left < ((k + totL xss : Nat) : Int) by have := HF.out; omega)
        have HE := Lib.hid (show left - ((k + totL (xss.take k) : Nat) : Int) = left - ((k + totL xss : Nat) : Int) by rw [HF.out])
        generalize left - ((k + totL (xss.take k) : Nat) : Int) = L at *
        go_wp2
        go_ret
        exact ⟨by rw [szOf_ge (by have := HG.out; omega), ← HE.out]; rfl, rfl⟩
theorem ss_eq_step {xs ys : List (List Int)} {k : Nat} (h1 : k < xs.length) (h2 : k < ys.length) (h : xs.take k = ys.take k) (he : xs.getD k [] = ys.getD k []) : xs.take (k + 1) = ys.take (k + 1) := by
  rw [take_ss h1, take_ss h2, h, he]
set_option maxHeartbeats 1000000 in
theorem eqSS_laws (A : Option Addr) (n c : Nat) (xs : List (List Int)) (B : Option Addr) (m d : Nat) (ys : List (List Int)) (w : World) (hx : RdSS w A n c xs) (hy : RdSS w B m d ys) :
    Calls Try.prog 62 #[.slice A n c, .slice B m d] w (Says (xs = ys) w) := by
  have hl := Lib.hid hx.1
  have hk := Lib.hid hy.1
  have hn : n ≤ 9223372036854775807 := by have h1 := hx.2.1; have h2 := hx.2.2.1; unfold maxLen at h2; omega
  have HX := Lib.hid hx
  have HY := Lib.hid hy
  clear hx hy
  by_cases hnm : n = m
  · obtain rfl : m = n := hnm.symm
    go_enter Try.func62, Try.ntmps62
    go_wp2
    go_loopw [5] (fun v5 wr => ∃ k : Nat, k ≤ m ∧ v5 = .int .i64 (k : Int) ∧ xs.take k = ys.take k ∧ Below w.heap.size w wr) (fun v5 _ => m - (intOf v5).toNat)
    case atStart => exact ⟨0, Nat.zero_le _, rfl, rfl, Below.refl _ _⟩
    case round =>
      obtain ⟨k, hkm, rfl, heq, hbr⟩ := hrel
      have HE := Lib.hid heq
      clear heq
      by_cases hlt : k < m
      · obtain ⟨g, o, A', n', c', rfl, hg, hc, hrd⟩ := (HX.out.below hbr).at_ hlt
        obtain ⟨g2, o2, B', m', d', rfl, hg2, hc2, hrd2⟩ := (HY.out.below hbr).at_ hlt
        have HS := Lib.hid (fun he => ss_eq_step (k := k) (by rw [hl.out]; exact hlt) (by rw [hk.out]; exact hlt) HE.out he)
        have HN := Lib.hid (fun (hne : ¬ xs.getD k [] = ys.getD k []) (e : xs = ys) => hne (by rw [e]))
        have i0 : (0 : Int) ≤ (k : Int) := by omega
        have i1 : (k : Int) < (m : Int) := by omega
        have HB := Lib.hid hbr
        have HC := Lib.hid (show Calls Try.prog 15 #[.slice A' n' c', .slice B' m' d'] (wr.drewN 1) (Says (xs.getD k [] = ys.getD k []) (wr.drewN 1)) from eqByteS_laws A' n' c' (xs.getD k []) B' m' d' (ys.getD k []) _ (hrd.drewN 1) (hrd2.drewN 1))
        clear hbr hg hg2 hrd hrd2
        generalize xs.getD k [] = x at *
        generalize ys.getD k [] = y at *
        by_cases hxy : x = y
        · have HY2 := Lib.hid (HS.out hxy)
          have HD := Lib.hid (decide_eq_true hxy)
          clear HS HN hxy
          go_wp2
          refine wp_region_held_drew (S := (fun w' => w'.cell? ⟨g, o + k, none⟩ = some (.slice A' n' c') ∧ w'.cell? ⟨g2, o2 + k, none⟩ = some (.slice B' m' d'))) (by kernel_rfl) ?_ (fun hHeld => ?_)
          · (try dsimp only); exact ⟨hc, hc2⟩
          first | refine Reg.tkA 0 (Reg.get rfl) hHeld ?_ | refine Reg.tkB 0 (Reg.get rfl) hHeld ?_
          try simp only [Act.put, List.setIfInBounds_toArray, List.set_cons_zero, List.set_cons_succ]
          first | refine Reg.tkA 1 (Reg.get rfl) hHeld ?_ | refine Reg.tkB 1 (Reg.get rfl) hHeld ?_
          try simp only [Act.put, List.setIfInBounds_toArray, List.set_cons_zero, List.set_cons_succ]
          first | refine Reg.tkA 2 (Reg.get rfl) hHeld ?_ | refine Reg.tkB 2 (Reg.get rfl) hHeld ?_
          try simp only [Act.put, List.setIfInBounds_toArray, List.set_cons_zero, List.set_cons_succ]
          first | refine Reg.tkA 3 (Reg.get rfl) hHeld ?_ | refine Reg.tkB 3 (Reg.get rfl) hHeld ?_
          try simp only [Act.put, List.setIfInBounds_toArray, List.set_cons_zero, List.set_cons_succ]
          first | refine Reg.tkA 4 (Reg.get rfl) hHeld ?_ | refine Reg.tkB 4 (Reg.get rfl) hHeld ?_
          try simp only [Act.put, List.setIfInBounds_toArray, List.set_cons_zero, List.set_cons_succ]
          first | refine Reg.tkA 5 (Reg.get rfl) hHeld ?_ | refine Reg.tkB 5 (Reg.get rfl) hHeld ?_
          try simp only [Act.put, List.setIfInBounds_toArray, List.set_cons_zero, List.set_cons_succ]
          first | refine Reg.tkA 6 (Reg.get rfl) hHeld ?_ | refine Reg.tkB 6 (Reg.get rfl) hHeld ?_
          try simp only [Act.put, List.setIfInBounds_toArray, List.set_cons_zero, List.set_cons_succ]
          first | refine Reg.tkA 7 (Reg.get rfl) hHeld ?_ | refine Reg.tkB 7 (Reg.get rfl) hHeld ?_
          try simp only [Act.put, List.setIfInBounds_toArray, List.set_cons_zero, List.set_cons_succ]
          first | ((refine Reg.tkB 8 (Reg.get rfl) hHeld ?_)) | (refine wpAnyH_ready (rs := [8]) (by kernel_rfl) (by simp) ?_; refine AllReadyH.cons (Reg.get rfl) (fun K hK => ?_) AllReadyH.nil; clear hHeld; go_simp; (first | ((go_at_call 15; refine HC.out.mono ?_; rintro e wn ⟨rfl, hb⟩; rw [HD.out]; replace hc := Mem.lift hb hc; replace hc2 := Mem.lift hb hc2; have HB2 := Lib.hid (stepB (Sls.below_drewN HB.out 1) hb HB.out.size); clear hb HC))); refine hK.out _ _ ?_ (fun hHeld => ?_); ((try dsimp only); exact ⟨hc, hc2⟩); clear hK K)
          try simp only [Act.put, List.setIfInBounds_toArray, List.set_cons_zero, List.set_cons_succ]
          first | refine Reg.tkA 9 (Reg.get rfl) hHeld ?_ | refine Reg.tkB 9 (Reg.get rfl) hHeld ?_
          try simp only [Act.put, List.setIfInBounds_toArray, List.set_cons_zero, List.set_cons_succ]
          refine wpAnyH_done (by kernel_rfl) ?_ _
          go_wp2
          go_roundw
          case rel => exact ⟨k + 1, by omega, by go_num, HY2.out, HB2.out⟩
          case measure => simp [intOf]; omega
        · have HN2 := Lib.hid (HN.out hxy)
          have HD := Lib.hid (decide_eq_false hxy)
          clear HS HN hxy
          go_wp2
          refine wp_region_held_drew (S := (fun w' => w'.cell? ⟨g, o + k, none⟩ = some (.slice A' n' c') ∧ w'.cell? ⟨g2, o2 + k, none⟩ = some (.slice B' m' d'))) (by kernel_rfl) ?_ (fun hHeld => ?_)
          · (try dsimp only); exact ⟨hc, hc2⟩
          first | refine Reg.tkA 0 (Reg.get rfl) hHeld ?_ | refine Reg.tkB 0 (Reg.get rfl) hHeld ?_
          try simp only [Act.put, List.setIfInBounds_toArray, List.set_cons_zero, List.set_cons_succ]
          first | refine Reg.tkA 1 (Reg.get rfl) hHeld ?_ | refine Reg.tkB 1 (Reg.get rfl) hHeld ?_
          try simp only [Act.put, List.setIfInBounds_toArray, List.set_cons_zero, List.set_cons_succ]
          first | refine Reg.tkA 2 (Reg.get rfl) hHeld ?_ | refine Reg.tkB 2 (Reg.get rfl) hHeld ?_
          try simp only [Act.put, List.setIfInBounds_toArray, List.set_cons_zero, List.set_cons_succ]
          first | refine Reg.tkA 3 (Reg.get rfl) hHeld ?_ | refine Reg.tkB 3 (Reg.get rfl) hHeld ?_
          try simp only [Act.put, List.setIfInBounds_toArray, List.set_cons_zero, List.set_cons_succ]
          first | refine Reg.tkA 4 (Reg.get rfl) hHeld ?_ | refine Reg.tkB 4 (Reg.get rfl) hHeld ?_
          try simp only [Act.put, List.setIfInBounds_toArray, List.set_cons_zero, List.set_cons_succ]
          first | refine Reg.tkA 5 (Reg.get rfl) hHeld ?_ | refine Reg.tkB 5 (Reg.get rfl) hHeld ?_
          try simp only [Act.put, List.setIfInBounds_toArray, List.set_cons_zero, List.set_cons_succ]
          first | refine Reg.tkA 6 (Reg.get rfl) hHeld ?_ | refine Reg.tkB 6 (Reg.get rfl) hHeld ?_
          try simp only [Act.put, List.setIfInBounds_toArray, List.set_cons_zero, List.set_cons_succ]
          first | refine Reg.tkA 7 (Reg.get rfl) hHeld ?_ | refine Reg.tkB 7 (Reg.get rfl) hHeld ?_
          try simp only [Act.put, List.setIfInBounds_toArray, List.set_cons_zero, List.set_cons_succ]
          first | ((refine Reg.tkB 8 (Reg.get rfl) hHeld ?_)) | (refine wpAnyH_ready (rs := [8]) (by kernel_rfl) (by simp) ?_; refine AllReadyH.cons (Reg.get rfl) (fun K hK => ?_) AllReadyH.nil; clear hHeld; go_simp; (first | ((go_at_call 15; refine HC.out.mono ?_; rintro e wn ⟨rfl, hb⟩; rw [HD.out]; replace hc := Mem.lift hb hc; replace hc2 := Mem.lift hb hc2; have HB2 := Lib.hid (stepB (Sls.below_drewN HB.out 1) hb HB.out.size); clear hb HC))); refine hK.out _ _ ?_ (fun hHeld => ?_); ((try dsimp only); exact ⟨hc, hc2⟩); clear hK K)
          try simp only [Act.put, List.setIfInBounds_toArray, List.set_cons_zero, List.set_cons_succ]
          first | refine Reg.tkA 9 (Reg.get rfl) hHeld ?_ | refine Reg.tkB 9 (Reg.get rfl) hHeld ?_
          try simp only [Act.put, List.setIfInBounds_toArray, List.set_cons_zero, List.set_cons_succ]
          refine wpAnyH_done (by kernel_rfl) ?_ _
          go_wp2
          go_ret
          exact says_no HN2.out HB2.out
      · have HA := Lib.hid (show xs = ys by
          have h := HE.out
          rw [List.take_of_length_le (by rw [hl.out]; omega), List.take_of_length_le (by rw [hk.out]; omega)] at h
          exact h)
        have HB := Lib.hid hbr
        clear hbr
        go_wp2
        go_ret
        exact says_yes HA.out HB.out
  · have h1 : ((n : Int) == (m : Int)) = false := by rw [beq_eq_false_iff_ne]; omega
    have h2 : ((n : Int) != (m : Int)) = true := by rw [bne_iff_ne]; omega
    have hne := Lib.hid (show ¬ xs = ys from fun e => hnm (by rw [← hl.out, ← hk.out, e]))
    clear hnm
    go_enter Try.func62, Try.ntmps62
    go_wp2
    go_ret
    exact says_no hne.out (Below.refl _ _)
set_option maxHeartbeats 1000000 in
theorem eqSS_impl (A : Option Addr) (n c : Nat) (xs : List (List Int)) (B : Option Addr) (m d : Nat) (ys : List (List Int)) (w : World) (hx : RdSS w A n c xs) (hy : RdSS w B m d ys) :
    Calls Try.prog 73 #[.slice A n c, .slice B m d] w (Says (xs = ys) w) := by
  have hl := Lib.hid hx.1
  have hk := Lib.hid hy.1
  have hn : n ≤ 9223372036854775807 := by have h1 := hx.2.1; have h2 := hx.2.2.1; unfold maxLen at h2; omega
  have HX := Lib.hid hx
  have HY := Lib.hid hy
  clear hx hy
  by_cases hnm : n = m
  · obtain rfl : m = n := hnm.symm
    go_enter Try.func73, Try.ntmps73
    go_wp2
    go_loopw [13] (fun v5 wr => ∃ k : Nat, k ≤ m ∧ v5 = .int .i64 (k : Int) ∧ xs.take k = ys.take k ∧ Below w.heap.size w wr) (fun v5 _ => m - (intOf v5).toNat)
    case atStart => exact ⟨0, Nat.zero_le _, rfl, rfl, Below.refl _ _⟩
    case round =>
      obtain ⟨k, hkm, rfl, heq, hbr⟩ := hrel
      have HE := Lib.hid heq
      clear heq
      by_cases hlt : k < m
      · obtain ⟨g, o, A', n', c', rfl, hg, hc, hrd⟩ := (HX.out.below hbr).at_ hlt
        obtain ⟨g2, o2, B', m', d', rfl, hg2, hc2, hrd2⟩ := (HY.out.below hbr).at_ hlt
        have HS := Lib.hid (fun he => ss_eq_step (k := k) (by rw [hl.out]; exact hlt) (by rw [hk.out]; exact hlt) HE.out he)
        have HN := Lib.hid (fun (hne : ¬ xs.getD k [] = ys.getD k []) (e : xs = ys) => hne (by rw [e]))
        have i0 : (0 : Int) ≤ (k : Int) := by omega
        have i1 : (k : Int) < (m : Int) := by omega
        have HB := Lib.hid hbr
        have HC := Lib.hid (show Calls Try.prog 97 #[.slice A' n' c', .slice B' m' d'] (wr.drewN 1) (Says (xs.getD k [] = ys.getD k []) (wr.drewN 1)) from EqualBytes_impl A' n' c' (xs.getD k []) B' m' d' (ys.getD k []) _ (hrd.drewN 1) (hrd2.drewN 1))
        clear hbr hg hg2 hrd hrd2
        generalize xs.getD k [] = x at *
        generalize ys.getD k [] = y at *
        by_cases hxy : x = y
        · have HY2 := Lib.hid (HS.out hxy)
          have HD := Lib.hid (decide_eq_true hxy)
          clear HS HN hxy
          go_wp2
          refine wp_region_held_drew (S := (fun w' => w'.cell? ⟨g, o + k, none⟩ = some (.slice A' n' c') ∧ w'.cell? ⟨g2, o2 + k, none⟩ = some (.slice B' m' d'))) (by kernel_rfl) ?_ (fun hHeld => ?_)
          · (try dsimp only); exact ⟨hc, hc2⟩
          first | refine Reg.tkA 0 (Reg.get rfl) hHeld ?_ | refine Reg.tkB 0 (Reg.get rfl) hHeld ?_
          try simp only [Act.put, List.setIfInBounds_toArray, List.set_cons_zero, List.set_cons_succ]
          first | refine Reg.tkA 1 (Reg.get rfl) hHeld ?_ | refine Reg.tkB 1 (Reg.get rfl) hHeld ?_
          try simp only [Act.put, List.setIfInBounds_toArray, List.set_cons_zero, List.set_cons_succ]
          first | refine Reg.tkA 2 (Reg.get rfl) hHeld ?_ | refine Reg.tkB 2 (Reg.get rfl) hHeld ?_
          try simp only [Act.put, List.setIfInBounds_toArray, List.set_cons_zero, List.set_cons_succ]
          first | refine Reg.tkA 3 (Reg.get rfl) hHeld ?_ | refine Reg.tkB 3 (Reg.get rfl) hHeld ?_
          try simp only [Act.put, List.setIfInBounds_toArray, List.set_cons_zero, List.set_cons_succ]
          first | refine Reg.tkA 4 (Reg.get rfl) hHeld ?_ | refine Reg.tkB 4 (Reg.get rfl) hHeld ?_
          try simp only [Act.put, List.setIfInBounds_toArray, List.set_cons_zero, List.set_cons_succ]
          first | refine Reg.tkA 5 (Reg.get rfl) hHeld ?_ | refine Reg.tkB 5 (Reg.get rfl) hHeld ?_
          try simp only [Act.put, List.setIfInBounds_toArray, List.set_cons_zero, List.set_cons_succ]
          first | refine Reg.tkA 6 (Reg.get rfl) hHeld ?_ | refine Reg.tkB 6 (Reg.get rfl) hHeld ?_
          try simp only [Act.put, List.setIfInBounds_toArray, List.set_cons_zero, List.set_cons_succ]
          first | refine Reg.tkA 7 (Reg.get rfl) hHeld ?_ | refine Reg.tkB 7 (Reg.get rfl) hHeld ?_
          try simp only [Act.put, List.setIfInBounds_toArray, List.set_cons_zero, List.set_cons_succ]
          first | ((refine Reg.tkB 8 (Reg.get rfl) hHeld ?_)) | (refine wpAnyH_ready (rs := [8]) (by kernel_rfl) (by simp) ?_; refine AllReadyH.cons (Reg.get rfl) (fun K hK => ?_) AllReadyH.nil; clear hHeld; go_simp; (first | ((go_at_call 97; refine HC.out.mono ?_; rintro e wn ⟨rfl, hb⟩; rw [HD.out]; replace hc := Mem.lift hb hc; replace hc2 := Mem.lift hb hc2; have HB2 := Lib.hid (stepB (Sls.below_drewN HB.out 1) hb HB.out.size); clear hb HC))); refine hK.out _ _ ?_ (fun hHeld => ?_); ((try dsimp only); exact ⟨hc, hc2⟩); clear hK K)
          try simp only [Act.put, List.setIfInBounds_toArray, List.set_cons_zero, List.set_cons_succ]
          first | refine Reg.tkA 9 (Reg.get rfl) hHeld ?_ | refine Reg.tkB 9 (Reg.get rfl) hHeld ?_
          try simp only [Act.put, List.setIfInBounds_toArray, List.set_cons_zero, List.set_cons_succ]
          refine wpAnyH_done (by kernel_rfl) ?_ _
          go_wp2
          go_roundw
          case rel => exact ⟨k + 1, by omega, by go_num, HY2.out, HB2.out⟩
          case measure => simp [intOf]; omega
        · have HN2 := Lib.hid (HN.out hxy)
          have HD := Lib.hid (decide_eq_false hxy)
          clear HS HN hxy
          go_wp2
          refine wp_region_held_drew (S := (fun w' => w'.cell? ⟨g, o + k, none⟩ = some (.slice A' n' c') ∧ w'.cell? ⟨g2, o2 + k, none⟩ = some (.slice B' m' d'))) (by kernel_rfl) ?_ (fun hHeld => ?_)
          · (try dsimp only); exact ⟨hc, hc2⟩
          first | refine Reg.tkA 0 (Reg.get rfl) hHeld ?_ | refine Reg.tkB 0 (Reg.get rfl) hHeld ?_
          try simp only [Act.put, List.setIfInBounds_toArray, List.set_cons_zero, List.set_cons_succ]
          first | refine Reg.tkA 1 (Reg.get rfl) hHeld ?_ | refine Reg.tkB 1 (Reg.get rfl) hHeld ?_
          try simp only [Act.put, List.setIfInBounds_toArray, List.set_cons_zero, List.set_cons_succ]
          first | refine Reg.tkA 2 (Reg.get rfl) hHeld ?_ | refine Reg.tkB 2 (Reg.get rfl) hHeld ?_
          try simp only [Act.put, List.setIfInBounds_toArray, List.set_cons_zero, List.set_cons_succ]
          first | refine Reg.tkA 3 (Reg.get rfl) hHeld ?_ | refine Reg.tkB 3 (Reg.get rfl) hHeld ?_
          try simp only [Act.put, List.setIfInBounds_toArray, List.set_cons_zero, List.set_cons_succ]
          first | refine Reg.tkA 4 (Reg.get rfl) hHeld ?_ | refine Reg.tkB 4 (Reg.get rfl) hHeld ?_
          try simp only [Act.put, List.setIfInBounds_toArray, List.set_cons_zero, List.set_cons_succ]
          first | refine Reg.tkA 5 (Reg.get rfl) hHeld ?_ | refine Reg.tkB 5 (Reg.get rfl) hHeld ?_
          try simp only [Act.put, List.setIfInBounds_toArray, List.set_cons_zero, List.set_cons_succ]
          first | refine Reg.tkA 6 (Reg.get rfl) hHeld ?_ | refine Reg.tkB 6 (Reg.get rfl) hHeld ?_
          try simp only [Act.put, List.setIfInBounds_toArray, List.set_cons_zero, List.set_cons_succ]
          first | refine Reg.tkA 7 (Reg.get rfl) hHeld ?_ | refine Reg.tkB 7 (Reg.get rfl) hHeld ?_
          try simp only [Act.put, List.setIfInBounds_toArray, List.set_cons_zero, List.set_cons_succ]
          first | ((refine Reg.tkB 8 (Reg.get rfl) hHeld ?_)) | (refine wpAnyH_ready (rs := [8]) (by kernel_rfl) (by simp) ?_; refine AllReadyH.cons (Reg.get rfl) (fun K hK => ?_) AllReadyH.nil; clear hHeld; go_simp; (first | ((go_at_call 97; refine HC.out.mono ?_; rintro e wn ⟨rfl, hb⟩; rw [HD.out]; replace hc := Mem.lift hb hc; replace hc2 := Mem.lift hb hc2; have HB2 := Lib.hid (stepB (Sls.below_drewN HB.out 1) hb HB.out.size); clear hb HC))); refine hK.out _ _ ?_ (fun hHeld => ?_); ((try dsimp only); exact ⟨hc, hc2⟩); clear hK K)
          try simp only [Act.put, List.setIfInBounds_toArray, List.set_cons_zero, List.set_cons_succ]
          first | refine Reg.tkA 9 (Reg.get rfl) hHeld ?_ | refine Reg.tkB 9 (Reg.get rfl) hHeld ?_
          try simp only [Act.put, List.setIfInBounds_toArray, List.set_cons_zero, List.set_cons_succ]
          refine wpAnyH_done (by kernel_rfl) ?_ _
          go_wp2
          go_ret
          exact says_no HN2.out HB2.out
      · have HA := Lib.hid (show xs = ys by
          have h := HE.out
          rw [List.take_of_length_le (by rw [hl.out]; omega), List.take_of_length_le (by rw [hk.out]; omega)] at h
          exact h)
        have HB := Lib.hid hbr
        clear hbr
        go_wp2
        go_ret
        exact says_yes HA.out HB.out
  · have h1 : ((n : Int) == (m : Int)) = false := by rw [beq_eq_false_iff_ne]; omega
    have h2 : ((n : Int) != (m : Int)) = true := by rw [bne_iff_ne]; omega
    have hne := Lib.hid (show ¬ xs = ys from fun e => hnm (by rw [← hl.out, ← hk.out, e]))
    clear hnm
    go_enter Try.func73, Try.ntmps73
    go_wp2
    go_ret
    exact says_no hne.out (Below.refl _ _)
end Go.Proofs.Ythdieeaegplnmaa.SS
