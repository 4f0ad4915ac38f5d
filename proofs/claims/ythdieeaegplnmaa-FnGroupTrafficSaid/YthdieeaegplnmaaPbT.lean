/- Power buffers of one's own; the laws' conversion into new memory; the comparison. -/
import Derived.Test.YthdieeaegplnmaaPb
namespace Go.Proofs.Ythdieeaegplnmaa.Pb
open Go.RowKit
open Go.Proofs.Ythdieeaegplnmaa.Num Go.Proofs.Ythdieeaegplnmaa.Mem Go.Proofs.Ythdieeaegplnmaa.Hsh Go.Proofs.Ythdieeaegplnmaa.Sls Go.Proofs.Ythdieeaegplnmaa.Own Go.Proofs.Ythdieeaegplnmaa.SS Go.Proofs.Ythdieeaegplnmaa.Gb
set_option linter.unusedSimpArgs false
set_option linter.unusedVariables false
/-- the cells of the first k entries, with the slices es -/
def CellsK (cs : List Value) (ks : List Kt) (es : List Sl) (k : Nat) : Prop :=
  cs.length = k * 4 ∧ ∀ i, i < k → cs[i * 4]? = some (.int .i64 (nthK ks i).st) ∧ cs[i * 4 + 1]? = some (.bool (nthK ks i).ap) ∧ cs[i * 4 + 2]? = some (sl (nth es i)) ∧ cs[i * 4 + 3]? = some (.int .i64 (nthK ks i).lo)
/-- each entry's frames are one's own, in ranges of blocks that do not meet -/
def InPB (w : World) (lo hi : Nat) (es : List Sl) (ks : List Kt) (r : Nat → Nat × Nat) (k : Nat) : Prop :=
  (∀ i, i < k → (lo ≤ (r i).1 ∧ (r i).1 ≤ (r i).2 ∧ (r i).2 ≤ hi) ∧ OwnSS w (r i).1 (r i).2 (nth es i).1 (nth es i).2.1 (nth es i).2.2 (nthK ks i).fs) ∧ ∀ i j, i < j → j < k → (r i).2 ≤ (r j).1 ∨ (r j).2 ≤ (r i).1
/-- the slice and all that it holds is one's own, from block lo on and below hi, and reads as ks -/
def OwnPB (w : World) (lo hi : Nat) (A : Option Addr) (n c : Nat) (ks : List Kt) : Prop :=
  ks.length = n ∧ ∃ (cs : List Value) (es : List Sl) (r : Nat → Nat × Nat), es.length = n ∧ CellsK cs ks es n ∧ Own w lo hi 95 4 A n c cs ∧ InPB w lo hi es ks r n
section
variable {w w' : World} {lo hi l2 h2 : Nat} {A : Option Addr} {n c k : Nat} {ks : List Kt} {es : List Sl} {r : Nat → Nat × Nat} {cs : List Value}
theorem InPB.keep (h : InPB w lo hi es ks r k) (hk : ∀ g, lo ≤ g → g < hi → w'.heap[g]? = w.heap[g]?) : InPB w' lo hi es ks r k :=
  ⟨fun i hi' => ⟨(h.1 i hi').1, (h.1 i hi').2.keep fun g h1 h2 => hk g (by have := (h.1 i hi').1; omega) (by have := (h.1 i hi').1; omega)⟩, h.2⟩
theorem InPB.wider (h : InPB w lo hi es ks r k) (hl : l2 ≤ lo) (hh : hi ≤ h2) : InPB w l2 h2 es ks r k :=
  ⟨fun i hi' => ⟨by have := (h.1 i hi').1; omega, (h.1 i hi').2⟩, h.2⟩
theorem OwnPB.keep (h : OwnPB w lo hi A n c ks) (hk : ∀ g, lo ≤ g → g < hi → w'.heap[g]? = w.heap[g]?) : OwnPB w' lo hi A n c ks := by
  obtain ⟨h0, cs, es, r, h1, h2, h3, h4⟩ := h
  exact ⟨h0, cs, es, r, h1, h2, h3.keep hk, h4.keep hk⟩
theorem OwnPB.below {B : Nat} (h : OwnPB w lo hi A n c ks) (hb : Below B w w') (hB : hi ≤ B) : OwnPB w' lo hi A n c ks := h.keep fun g _ hg => hb.block g (by omega)
theorem OwnPB.wider (h : OwnPB w lo hi A n c ks) (hl : l2 ≤ lo) (hh : hi ≤ h2) : OwnPB w l2 h2 A n c ks := by
  obtain ⟨h0, cs, es, r, h1, k2, h3, h4⟩ := h
  exact ⟨h0, cs, es, r, h1, k2, h3.wider hl hh, h4.wider hl hh⟩
theorem OwnPB.rd (h : OwnPB w lo hi A n c ks) : RdPB w A n c ks := by
  obtain ⟨h0, cs, es, r, h1, ⟨h2, h2b⟩, h3, h4⟩ := h
  have hr := h3.rd
  refine ⟨h0, hr.2.1, hr.2.2.1, fun hp => ?_⟩
  obtain ⟨g, o, rfl, hc⟩ := hr.2.2.2.2 (by omega)
  refine ⟨g, o, rfl, fun j hj => ?_⟩
  obtain ⟨e0, e1, e2, e3⟩ := h2b j hj
  refine ⟨(nth es j).1, (nth es j).2.1, (nth es j).2.2, ?_, ?_, ?_, ?_, (h4.1 j hj).2.rd⟩
  · rw [hc (j * 4) (by omega), e0]
  · rw [Nat.add_assoc, hc (j * 4 + 1) (by omega), e1]
  · rw [Nat.add_assoc, hc (j * 4 + 2) (by omega), e2]; rfl
  · rw [Nat.add_assoc, hc (j * 4 + 3) (by omega), e3]
theorem cells_zero (ks : List Kt) : CellsK [] ks [] 0 := ⟨rfl, fun i h => absurd h (by omega)⟩
theorem in_zero (w : World) (lo hi : Nat) (es : List Sl) (ks : List Kt) (r : Nat → Nat × Nat) : InPB w lo hi es ks r 0 := ⟨fun i h => absurd h (by omega), fun i j _ h => absurd h (by omega)⟩
theorem cells_step (h : CellsK cs ks es k) (hl : es.length = k) (s : Sl) : CellsK (cs ++ [.int .i64 (nthK ks k).st, .bool (nthK ks k).ap, sl s, .int .i64 (nthK ks k).lo]) ks (es ++ [s]) (k + 1) := by
  obtain ⟨h1, h2⟩ := h
  refine ⟨by simp [h1]; omega, fun i hi => ?_⟩
  rcases Nat.lt_or_ge i k with h3 | h3
  · obtain ⟨e0, e1, e2, e3⟩ := h2 i h3
    rw [nth_old (by omega)]
    refine ⟨?_, ?_, ?_, ?_⟩
    · rw [List.getElem?_append_left (by omega)]; exact e0
    · rw [List.getElem?_append_left (by omega)]; exact e1
    · rw [List.getElem?_append_left (by omega)]; exact e2
    · rw [List.getElem?_append_left (by omega)]; exact e3
  · obtain rfl : i = k := by omega
    rw [nth_new hl]
    refine ⟨?_, ?_, ?_, ?_⟩
    · rw [List.getElem?_append_right (by omega), show i * 4 - cs.length = 0 by omega]; rfl
    · rw [List.getElem?_append_right (by omega), show i * 4 + 1 - cs.length = 1 by omega]; rfl
    · rw [List.getElem?_append_right (by omega), show i * 4 + 2 - cs.length = 2 by omega]; rfl
    · rw [List.getElem?_append_right (by omega), show i * 4 + 3 - cs.length = 3 by omega]; rfl
def ext (r : Nat → Nat × Nat) (k : Nat) (p : Nat × Nat) : Nat → Nat × Nat := fun i => if i = k then p else r i
theorem in_stepK (h : InPB w lo hi es ks r k) (hl : es.length = k) (s : Sl) (hs : OwnSS w hi h2 s.1 s.2.1 s.2.2 (nthK ks k).fs) (hlo : lo ≤ hi) (hh : hi ≤ h2) : InPB w lo h2 (es ++ [s]) ks (ext r k (hi, h2)) (k + 1) := by
  refine ⟨fun i hi' => ?_, fun i j hij hj => ?_⟩
  · rcases Nat.lt_or_ge i k with h3 | h3
    · have e : ext r k (hi, h2) i = r i := by unfold ext; rw [if_neg (by omega)]
      rw [e, nth_old (by omega)]
      exact ⟨by have := (h.1 i h3).1; omega, (h.1 i h3).2⟩
    · obtain rfl : i = k := by omega
      have e : ext r i (hi, h2) i = (hi, h2) := by unfold ext; rw [if_pos rfl]
      rw [e, nth_new hl]
      exact ⟨⟨hlo, hh, Nat.le_refl _⟩, hs⟩
  · have e1 : ext r k (hi, h2) i = r i := by unfold ext; rw [if_neg (by omega)]
    rw [e1]
    rcases Nat.lt_or_ge j k with h3 | h3
    · have e2 : ext r k (hi, h2) j = r j := by unfold ext; rw [if_neg (by omega)]
      rw [e2]; exact h.2 i j hij h3
    · obtain rfl : j = k := by omega
      have e2 : ext r j (hi, h2) j = (hi, h2) := by unfold ext; rw [if_pos rfl]
      rw [e2]
      exact .inl (h.1 i hij).1.2.2
theorem four_storesK {base : Nat} {e : TypeId} {g : Nat} {xs : List Value} (h : w.ownsRow base e 4 (.slice (some ⟨g, 0, none⟩) n c) n xs) (hk : k < n) (v0 v1 v2 v3 : Value) :
    (∃ u, w.cell? ⟨g, k * 4, none⟩ = some u) ∧ (∃ u, w.cell? ⟨g, k * 4 + 1, none⟩ = some u) ∧ (∃ u, w.cell? ⟨g, k * 4 + 2, none⟩ = some u) ∧ (∃ u, w.cell? ⟨g, k * 4 + 3, none⟩ = some u) ∧
    ((((w.setCell ⟨g, k * 4, none⟩ v0).setCell ⟨g, k * 4 + 1, none⟩ v1).setCell ⟨g, k * 4 + 2, none⟩ v2).setCell ⟨g, k * 4 + 3, none⟩ v3).ownsRow base e 4 (.slice (some ⟨g, 0, none⟩) n c) n ((((xs.set (k * 4) v0).set (k * 4 + 1) v1).set (k * 4 + 2) v2).set (k * 4 + 3) v3) := by
  have hl := h.1
  have H : ∀ j, j < n * 4 → ∃ u, w.cell? ⟨g, j, none⟩ = some u := fun j hj => ⟨xs[j]'(by omega), by rw [h.cellAt j hj, List.getElem?_eq_getElem (by omega)]⟩
  exact ⟨H _ (by omega), H _ (by omega), H _ (by omega), H _ (by omega), ((((h.stored _ v0).1.stored _ v1).1.stored _ v2).1.stored _ v3).1⟩
theorem set_one {F Z : List Value} {m : Nat} (hF : F.length = m) (hZ : m < Z.length) (v : Value) : (F ++ Z.drop m).set m v = (F ++ [v]) ++ Z.drop (m + 1) := by
  subst hF
  rw [List.set_append_right _ _ (by simp), List.append_assoc]
  congr 1
  rw [Nat.sub_self, List.drop_eq_getElem_cons hZ]
  rfl
theorem fillK {Z : List Value} (h1 : cs.length = k * 4) (h2 : k * 4 + 3 < Z.length) (v0 v1 v2 v3 : Value) :
    (((((cs ++ Z.drop (k * 4)).set (k * 4) v0).set (k * 4 + 1) v1).set (k * 4 + 2) v2).set (k * 4 + 3) v3) = (cs ++ [v0, v1, v2, v3]) ++ Z.drop ((k + 1) * 4) := by
  rw [set_one h1 (by omega), set_one (m := k * 4 + 1) (by simp [h1]) (by omega), set_one (m := k * 4 + 2) (by simp [h1]) (by omega), set_one (m := k * 4 + 3) (by simp [h1]) (by omega), show (k + 1) * 4 = k * 4 + 3 + 1 by omega]
  simp
theorem set4_heap (w : World) (g o0 o1 o2 o3 : Nat) (v0 v1 v2 v3 : Value) (q : Nat) (hq : q ≠ g) : ((((w.setCell ⟨g, o0, none⟩ v0).setCell ⟨g, o1, none⟩ v1).setCell ⟨g, o2, none⟩ v2).setCell ⟨g, o3, none⟩ v3).heap[q]? = w.heap[q]? :=
  (Below.heap_setCell _ _ _ q (by simpa using hq)).trans ((Below.heap_setCell _ _ _ q (by simpa using hq)).trans ((Below.heap_setCell _ _ _ q (by simpa using hq)).trans (Below.heap_setCell _ _ _ q (by simpa using hq))))
end
theorem ktInfo : (Try.prog.info? 95).map (fun i => (i.zero, i.size, i.bytes)) = some (some (.agg #[.int .i64 0, .bool false, .slice none 0 0, .int .i64 0]), 4, 48) := by kernel_rfl
/-- an entry in new memory -/
def RetKt (w : World) (st lo : Int) (ap : Bool) (n : Nat) (xss : List (List Int)) (x : Ending) (w' : World) : Prop :=
  ∃ A c, x = .returned (.agg #[.int .i64 st, .bool ap, .slice A n c, .int .i64 lo]) ∧ OwnSS w' w.heap.size w'.heap.size A n c xss ∧ Below w.heap.size w w'
set_option maxHeartbeats 2000000 in
theorem toKt_any (st lo : Int) (ap : Bool) (A : Option Addr) (n c : Nat) (xss : List (List Int)) (w : World) (hr : RdSS w A n c xss) (hn : n ≤ 2097152) (hs : AllShort xss) :
    Calls Try.prog 99 #[.agg #[.int .i64 st, .bool ap, .slice A n c, .int .i64 lo]] w (RetKt w st lo ap n xss) := by
  have HR := Lib.hid hr
  have HS := Lib.hid hs
  have B : Below w.heap.size w w := Below.refl _ _
  clear hr hs
  go_enter Try.func99, Try.ntmps99
  go_wp2_with fail
  generalize hW : World.alloc _ _ = w1
  have ba : Bk.Blk w1 (w.heap.size) 106 #[.int .i64 st, .bool ap, .slice A n c, .int .i64 lo] := (by rw [← hW]; apply Bk.Blk.to; (focus (exact Bk.sv)); rfl)
  have r0 : Bk.Blk w1 (w.heap.size + 1) 95 #[.int .i64 0, .bool false, .slice none 0 0, .int .i64 0] := (by rw [← hW]; apply Bk.Blk.to; (focus (exact Bk.sv)); rfl)
  have bt : Bk.Blk w1 (w.heap.size + 1 + 1) 95 #[.int .i64 st, .bool ap, .slice none 0 0, .int .i64 0] := (by rw [← hW]; apply Bk.Blk.to; (focus (exact Bk.sv)); rfl)
  replace B : Below w.heap.size w w1 := (by rw [← hW]; go_grown)
  have z1 : w1.heap.size = _ := congrArg (fun W : World => W.heap.size) hW.symm
  (try simp only [World.size_alloc, Bk.size_set, World.size_drew, World.drewN] at z1)
  clear hW
  refine (toSS_any A n c xss _ (HR.out.below B) hn HS.out).mono ?_
  rintro x w2 ⟨A1, c1, rfl, hown, hb0⟩
  have HO := hown
  replace ba : Bk.Blk w2 (w.heap.size) 106 #[.int .i64 st, .bool ap, .slice A n c, .int .i64 lo] := Bk.Blk.under hb0 (by exact Bk.sv)
  replace r0 : Bk.Blk w2 (w.heap.size + 1) 95 #[.int .i64 0, .bool false, .slice none 0 0, .int .i64 0] := Bk.Blk.under hb0 (by exact Bk.sv)
  replace bt : Bk.Blk w2 (w.heap.size + 1 + 1) 95 #[.int .i64 st, .bool ap, .slice none 0 0, .int .i64 0] := Bk.Blk.under hb0 (by exact Bk.sv)
  replace B : Below w.heap.size w w2 := Below.trans (by go_grown) (hb0.mono (by first | omega | (simp [Bk.size_set]; done) | (simp [Bk.size_set]; omega)))
  have z2 := hb0.size
  (try simp only [World.size_alloc, Bk.size_set, World.size_drew, World.drewN] at z2)
  clear hb0
  clear hown
  have L_ba := Lay.f4 ba
  have L_r0 := Lay.f4 r0
  have L_bt := Lay.f4 bt
  go_wp2_with fail
  clear L_ba L_r0 L_bt
  generalize hW : World.setCell _ _ _ = w3
  have HO2 := Lib.hid (show OwnSS w3 w1.heap.size w2.heap.size A1 n c1 xss from by rw [← hW]; repeat (first | with_reducible exact HO | with_reducible refine Gb.own_set ?_ (by omega) _))
  have hz := congrArg (fun W : World => W.heap.size) hW
  (try simp only [Bk.size_set] at hz)
  replace r0 : Bk.Blk w3 (w.heap.size + 1) 95 #[.int .i64 st, .bool ap, .slice A1 n c1, .int .i64 lo] := (by rw [← hW]; apply Bk.Blk.to; (focus (exact Bk.sv)); rfl)
  replace B : Below w.heap.size w w3 := (by rw [← hW]; go_grown)
  have z3 : w3.heap.size = _ := congrArg (fun W : World => W.heap.size) hW.symm
  (try simp only [World.size_alloc, Bk.size_set, World.size_drew, World.drewN] at z3)
  clear hW
  have L_r0 := Lay.c4 r0
  go_wp2
  refine bodyPost_ret (v := .agg #[.int .i64 st, .bool ap, .slice A1 n c1, .int .i64 lo]) (by simp [results, Try.results99, go_sem, L_r0]) rfl (⟨A1, c1, rfl, HO2.out.wider (by omega) (by omega), B⟩)
/-- the entries in new memory -/
def RetKs (w : World) (n : Nat) (ks : List Kt) (x : Ending) (w' : World) : Prop :=
  ∃ A c, x = .returned (.slice A n c) ∧ OwnPB w' w.heap.size w'.heap.size A n c ks ∧ Below w.heap.size w w'
def RetPb (w : World) (n : Nat) (ks : List Kt) (x : Ending) (w' : World) : Prop :=
  ∃ A c, x = .returned (.agg #[.slice A n c]) ∧ OwnPB w' w.heap.size w'.heap.size A n c ks ∧ Below w.heap.size w w'
/-- every entry's frames are few and short -/
def AllFew (ks : List Kt) : Prop := ∀ i, (nthK ks i).fs.length ≤ 2097152 ∧ AllShort (nthK ks i).fs
theorem few_of_tot {ks : List Kt} {n : Nat} (hl : ks.length = n) (h : totK ks n ≤ 2097152) : AllFew ks := fun i => by
  rcases Nat.lt_or_ge i n with hi | hi
  · have h1 := totK_at (ks := ks) hi
    exact ⟨by omega, short_of_tot (by omega)⟩
  · have e : nthK ks i = ⟨0, false, [], 0⟩ := by unfold nthK; simp [List.getD, List.getElem?_eq_none (show ks.length ≤ i by omega)]
    rw [e]
    exact ⟨by simp, fun j => by simp⟩
set_option maxHeartbeats 2000000 in
theorem toKs_any (A : Option Addr) (n c : Nat) (ks : List Kt) (w : World) (hr : RdPB w A n c ks) (hn : n ≤ 1048576) (hs : AllFew ks) :
    Calls Try.prog 79 #[.slice A n c] w (RetKs w n ks) := by
  obtain ⟨i0, hi, hz0, hz1, hz2⟩ := info_parts ktInfo
  have hl := Lib.hid hr.1
  have HR := Lib.hid hr
  have HS := Lib.hid hs
  clear hr hs
  go_enter Try.func79, Try.ntmps79
  go_wp2_with (at_make; refine wpList_make_full _ rfl _ _ 37 rfl w.heap.size 95 i0 (.agg #[.int .i64 0, .bool false, .slice none 0 0, .int .i64 0]) 4 Try.underlying37 hi hz0 hz1 _ _ _ _ n rfl rfl rfl rfl ?b2 ?b3 (Nat.le_refl _) ?_)
  case b2 => rw [hz2]; omega
  case b3 => unfold maxLen; omega
  intro w0 hown0 hgrow0
  have hb0 : Below w.heap.size w w0 := (Below.refl _ _).grown hgrow0 (Nat.le_refl _) (fun k h => by cases h)
  clear hgrow0
  have hz' : ((madeCells #[Value.int IntKind.i64 0, Value.bool false, Value.slice none 0 0, Value.int IntKind.i64 0] (n * 4)).toList).length = n * 4 := by simp [size_madeCells]
  generalize (madeCells #[Value.int IntKind.i64 0, Value.bool false, Value.slice none 0 0, Value.int IntKind.i64 0] (n * 4)).toList = Z at hown0 hz'
  have HZ := Lib.hid hz'
  have HO := Lib.hid hown0
  clear hz' hown0
  go_wp2
  go_loopw [4] (fun v4 wr => ∃ (k : Nat) (cs : List Value) (es : List Sl) (r : Nat → Nat × Nat), k ≤ n ∧ v4 = .int .i64 (k : Int) ∧ es.length = k ∧ CellsK cs ks es k ∧ wr.ownsRow w.heap.size 95 4 (.slice (some ⟨w.heap.size, 0, none⟩) n n) n (cs ++ Z.drop (k * 4)) ∧ InPB wr (w.heap.size + 1) wr.heap.size es ks r k ∧ Below w.heap.size w wr) (fun v4 _ => n - (intOf v4).toNat)
  case atStart => exact ⟨0, [], [], fun _ => (0, 0), Nat.zero_le _, rfl, rfl, cells_zero _, HO.out, in_zero _ _ _ _ _ _, hb0⟩
  case round =>
    obtain ⟨k, cs, es, r, hk, rfl, hls, hcs, hown, hin, hbr⟩ := hrel
    by_cases hlt : k < n
    · obtain ⟨g, o, A', n', c', rfl, hg, c0, c1, c2, c3, hrd⟩ := (HR.out.below hbr).at_ hlt
      have hw0 := (hown.lt w.heap.size rfl).2
      have HO := Lib.hid hown
      have HI := Lib.hid hin
      have HL := Lib.hid hls
      have HCS := Lib.hid (fun s => cells_step hcs hls s)
      have HST := Lib.hid (fun (W : World) (hw : wr.heap.size ≤ W.heap.size) (h : InPB W (w.heap.size + 1) wr.heap.size es ks r k) (s : Sl) hs => in_stepK h hls s hs (show w.heap.size + 1 ≤ wr.heap.size from hw0) hw)
      have HF := Lib.hid (fun v0 v1 v2 v3 => fillK (cs := cs) (Z := Z) (k := k) hcs.1 (by rw [HZ.out]; omega) v0 v1 v2 v3)
      have HRD := Lib.hid hrd
      have hn' : n' ≤ 2097152 := by have h1 := (HS.out k).1; have h2 := hrd.1; omega
      have HSH := Lib.hid (HS.out k).2
      have HB0 := Lib.hid hbr
      generalize (nthK ks k).st = st at *
      generalize (nthK ks k).ap = ap at *
      generalize (nthK ks k).lo = lo at *
      generalize (nthK ks k).fs = fs at *
      clear hown hin hls hcs hrd hbr
      go_wp2_with fail
      refine (toKt_any st lo ap A' n' c' fs _ HRD.out hn' HSH.out).mono ?_
      rintro x w1 ⟨A1, e1, rfl, hown1, hb⟩
      have h1 := own_below HO.out hb
      have hfr := h1.frozenAt
      obtain ⟨⟨u0, d0⟩, ⟨u1, d1⟩, ⟨u2, d2⟩, ⟨u3, d3⟩, hst⟩ := four_storesK h1 hlt (.int .i64 st) (.bool ap) (sl (A1, n', e1)) (.int .i64 lo)
      have HT := Lib.hid hst
      have hI1 := HST.out w1 hb.size (HI.out.keep fun g _ hg => hb.block g hg) (A1, n', e1) hown1
      have HN := Lib.hid ((hI1.keep (w' := (((w1.setCell ⟨w.heap.size, k * 4, none⟩ (.int .i64 st)).setCell ⟨w.heap.size, k * 4 + 1, none⟩ (.bool ap)).setCell ⟨w.heap.size, k * 4 + 2, none⟩ (sl (A1, n', e1))).setCell ⟨w.heap.size, k * 4 + 3, none⟩ (.int .i64 lo)) fun g h1 _ => set4_heap w1 _ _ _ _ _ _ _ _ _ g (by omega)).wider (h2 := ((((w1.setCell ⟨w.heap.size, k * 4, none⟩ (.int .i64 st)).setCell ⟨w.heap.size, k * 4 + 1, none⟩ (.bool ap)).setCell ⟨w.heap.size, k * 4 + 2, none⟩ (sl (A1, n', e1))).setCell ⟨w.heap.size, k * 4 + 3, none⟩ (.int .i64 lo)).heap.size) (Nat.le_refl _) (by simp [World.setCell]))
      have HB := Lib.hid (((((stepB HB0.out hb HB0.out.size).setCell (p := ⟨w.heap.size, k * 4, none⟩) (Nat.le_refl _) (.int .i64 st)).setCell (p := ⟨w.heap.size, k * 4 + 1, none⟩) (Nat.le_refl _) (.bool ap)).setCell (p := ⟨w.heap.size, k * 4 + 2, none⟩) (Nat.le_refl _) (sl (A1, n', e1))).setCell (p := ⟨w.heap.size, k * 4 + 3, none⟩) (Nat.le_refl _) (.int .i64 lo))
      have HC2 := Lib.hid (HCS.out (A1, n', e1))
      have HX2 := Lib.hid (HF.out (.int .i64 st) (.bool ap) (sl (A1, n', e1)) (.int .i64 lo))
      have HL2 := Lib.hid (show (es ++ [(A1, n', e1)]).length = k + 1 by simp [HL.out])
      clear h1 hst hown1 hb hI1 c0 c1 c2 c3
      go_wp2
      go_roundw
      case rel => exact ⟨k + 1, _, es ++ [(A1, n', e1)], _, by omega, by go_num, HL2.out, HC2.out, by rw [← HX2.out]; exact HT.out, HN.out, HB.out⟩
      case measure => simp [intOf]; omega
    · obtain rfl : k = n := by omega
      have HA := Lib.hid (show cs ++ Z.drop (k * 4) = cs by rw [List.drop_of_length_le (by rw [HZ.out]; exact Nat.le_refl _), List.append_nil])
      have HW := Lib.hid hown
      have HI := Lib.hid hin
      have HL := Lib.hid hls
      have HC := Lib.hid hcs
      have HB := Lib.hid hbr
      clear hown hin hls hcs hbr
      go_wp2
      go_ret
      exact ⟨_, _, rfl, ⟨hl.out, cs, es, r, HL.out, HC.out, by have h := HW.out; rw [HA.out] at h; exact Own.of h, HI.out.wider (by omega) (Nat.le_refl _)⟩, HB.out⟩
set_option maxHeartbeats 2000000 in
theorem toPb_any (A : Option Addr) (n c : Nat) (ks : List Kt) (w : World) (hr : RdPB w A n c ks) (hn : n ≤ 1048576) (hs : AllFew ks) :
    Calls Try.prog 34 #[.agg #[.slice A n c]] w (RetPb w n ks) := by
  have HR := Lib.hid hr
  have HS := Lib.hid hs
  have B : Below w.heap.size w w := Below.refl _ _
  clear hr hs
  go_enter Try.func34, Try.ntmps34
  go_wp2_with fail
  generalize hW : World.alloc _ _ = w1
  have ba : Bk.Blk w1 (w.heap.size) 56 #[.slice A n c] := (by rw [← hW]; apply Bk.Blk.to; (focus (exact Bk.sv)); rfl)
  have r0 : Bk.Blk w1 (w.heap.size + 1) 39 #[.slice none 0 0] := (by rw [← hW]; apply Bk.Blk.to; (focus (exact Bk.sv)); rfl)
  have bt : Bk.Blk w1 (w.heap.size + 1 + 1) 39 #[.slice none 0 0] := (by rw [← hW]; apply Bk.Blk.to; (focus (exact Bk.sv)); rfl)
  replace B : Below w.heap.size w w1 := (by rw [← hW]; go_grown)
  have z1 : w1.heap.size = _ := congrArg (fun W : World => W.heap.size) hW.symm
  (try simp only [World.size_alloc, Bk.size_set, World.size_drew, World.drewN] at z1)
  clear hW
  refine (toKs_any A n c ks _ (HR.out.below B) hn HS.out).mono ?_
  rintro x w2 ⟨A1, c1, rfl, hown, hb0⟩
  have HO := hown
  replace ba : Bk.Blk w2 (w.heap.size) 56 #[.slice A n c] := Bk.Blk.under hb0 (by exact Bk.sv)
  replace r0 : Bk.Blk w2 (w.heap.size + 1) 39 #[.slice none 0 0] := Bk.Blk.under hb0 (by exact Bk.sv)
  replace bt : Bk.Blk w2 (w.heap.size + 1 + 1) 39 #[.slice none 0 0] := Bk.Blk.under hb0 (by exact Bk.sv)
  replace B : Below w.heap.size w w2 := Below.trans (by go_grown) (hb0.mono (by first | omega | (simp [Bk.size_set]; done) | (simp [Bk.size_set]; omega)))
  have z2 := hb0.size
  (try simp only [World.size_alloc, Bk.size_set, World.size_drew, World.drewN] at z2)
  clear hb0
  clear hown
  have l_ba : w.heap.size < w2.heap.size := Bk.Blk.lt ba
  have c_ba0 : w2.cell? ⟨w.heap.size, 0, none⟩ = some (.slice A n c) := Bk.Blk.cell ba 0
  have f_ba0 : w2.frozen? ⟨w.heap.size, 0, none⟩ = false := Bk.Blk.fro ba 0
  have l_r0 : w.heap.size + 1 < w2.heap.size := Bk.Blk.lt r0
  have c_r00 : w2.cell? ⟨w.heap.size + 1, 0, none⟩ = some (.slice none 0 0) := Bk.Blk.cell r0 0
  have f_r00 : w2.frozen? ⟨w.heap.size + 1, 0, none⟩ = false := Bk.Blk.fro r0 0
  have l_bt : w.heap.size + 1 + 1 < w2.heap.size := Bk.Blk.lt bt
  have c_bt0 : w2.cell? ⟨w.heap.size + 1 + 1, 0, none⟩ = some (.slice none 0 0) := Bk.Blk.cell bt 0
  have f_bt0 : w2.frozen? ⟨w.heap.size + 1 + 1, 0, none⟩ = false := Bk.Blk.fro bt 0
  go_wp2_with fail
  clear l_ba c_ba0 f_ba0 l_r0 c_r00 f_r00 l_bt c_bt0 f_bt0
  generalize hW : World.setCell _ _ _ = w3
  have HO2 := Lib.hid (show OwnPB w3 w1.heap.size w2.heap.size A1 n c1 ks from by rw [← hW]; exact ((HO.keep fun g h1 _ => Below.heap_setCell _ _ _ g (by simp; omega)).keep fun g h1 _ => Below.heap_setCell _ _ _ g (by simp; omega)))
  have hz := congrArg (fun W : World => W.heap.size) hW
  (try simp only [Bk.size_set] at hz)
  replace r0 : Bk.Blk w3 (w.heap.size + 1) 39 #[.slice A1 n c1] := (by rw [← hW]; apply Bk.Blk.to; (focus (exact Bk.sv)); rfl)
  replace B : Below w.heap.size w w3 := (by rw [← hW]; go_grown)
  have z3 : w3.heap.size = _ := congrArg (fun W : World => W.heap.size) hW.symm
  (try simp only [World.size_alloc, Bk.size_set, World.size_drew, World.drewN] at z3)
  clear hW
  have l_r0 : w.heap.size + 1 < w3.heap.size := Bk.Blk.lt r0
  have c_r00 : w3.cell? ⟨w.heap.size + 1, 0, none⟩ = some (.slice A1 n c1) := Bk.Blk.cell r0 0
  go_wp2
  refine bodyPost_ret (v := .agg #[.slice A1 n c1]) (by simp [results, Try.results34, go_sem, c_r00]) rfl (⟨A1, c1, rfl, HO2.out.wider (by omega) (by omega), B⟩)
end Go.Proofs.Ythdieeaegplnmaa.Pb
