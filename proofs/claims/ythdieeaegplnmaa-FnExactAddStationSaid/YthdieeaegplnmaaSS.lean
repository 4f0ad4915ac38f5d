/- Slices of byte slices: what they read as; the laws' helpers on them (conversion, size, comparison). -/
import Derived.Test.YthdieeaegplnmaaSlices
import Derived.Test.YthdieeaegplnmaaOwn
import Derived.Test.YthdieeaegplnmaaReg
namespace Go.Proofs.Ythdieeaegplnmaa.SS
open Go.RowKit
open Go.Proofs.Ythdieeaegplnmaa.Num Go.Proofs.Ythdieeaegplnmaa.Mem Go.Proofs.Ythdieeaegplnmaa.Hsh Go.Proofs.Ythdieeaegplnmaa.Sls Go.Proofs.Ythdieeaegplnmaa.Own
set_option linter.unusedSimpArgs false

/-- the slice value '.slice A n c' reads as the byte strings xss -/
def RdSS (w : World) (A : Option Addr) (n c : Nat) (xss : List (List Int)) : Prop :=
  xss.length = n ∧ n ≤ c ∧ c ≤ maxLen ∧
  (0 < n → ∃ g o, A = some ⟨g, o, none⟩ ∧ ∀ j, j < n → ∃ A' n' c', w.cell? ⟨g, o + j, none⟩ = some (.slice A' n' c') ∧ Rd w 1 A' n' c' ((xss.getD j []).map (Value.int .u8)))
theorem RdSS.at_ {w : World} {A : Option Addr} {n c k : Nat} {xss : List (List Int)} (h : RdSS w A n c xss) (hk : k < n) :
    ∃ g o A' n' c', A = some ⟨g, o, none⟩ ∧ g < w.heap.size ∧ w.cell? ⟨g, o + k, none⟩ = some (.slice A' n' c') ∧ Rd w 1 A' n' c' ((xss.getD k []).map (Value.int .u8)) := by
  obtain ⟨g, o, rfl, hc⟩ := h.2.2.2 (by omega)
  obtain ⟨A', n', c', h1, h2⟩ := hc k hk
  exact ⟨g, o, A', n', c', rfl, World.block_lt_of_cell? _ _ h1, h1, h2⟩
theorem RdSS.keep {w w' : World} {A : Option Addr} {n c : Nat} {xss : List (List Int)} (h : RdSS w A n c xss) (hk : ∀ g, g < w.heap.size → w'.heap[g]? = w.heap[g]?) : RdSS w' A n c xss := by
  obtain ⟨h1, h2, h3, h4⟩ := h
  refine ⟨h1, h2, h3, fun hp => ?_⟩
  obtain ⟨g, o, rfl, hc⟩ := h4 hp
  refine ⟨g, o, rfl, fun j hj => ?_⟩
  obtain ⟨A', n', c', k1, k2⟩ := hc j hj
  exact ⟨A', n', c', (World.cell?_of_block (a := ⟨g, o + j, none⟩) (hk g (World.block_lt_of_cell? _ _ k1))).trans k1, k2.keep fun _ g' _ hlt => hk g' hlt⟩
theorem RdSS.below {w w' : World} {A : Option Addr} {n c : Nat} {xss : List (List Int)} (h : RdSS w A n c xss) (hb : Below w.heap.size w w') : RdSS w' A n c xss := h.keep fun g hg => hb.block g hg
theorem RdSS.alloc {w : World} {A : Option Addr} {n c : Nat} {xss : List (List Int)} (h : RdSS w A n c xss) (o : Obj) : RdSS (w.alloc o) A n c xss := h.keep fun g hg => Below.heap_alloc w o g hg
theorem RdSS.drewN {w : World} {A : Option Addr} {n c : Nat} {xss : List (List Int)} (h : RdSS w A n c xss) (k : Nat) : RdSS (w.drewN k) A n c xss := h.keep fun _ _ => rfl

abbrev Sl := Option Addr × Nat × Nat
def sl (s : Sl) : Value := .slice s.1 s.2.1 s.2.2
def nth (ss : List Sl) (i : Nat) : Sl := ss.getD i (none, 0, 0)
/-- the first k of the slices ss are one's own, in blocks of their own, and read as the byte strings -/
def InSS (w : World) (lo hi : Nat) (ss : List Sl) (xss : List (List Int)) (k : Nat) : Prop :=
  (∀ i, i < k → Own w lo hi 5 1 (nth ss i).1 (nth ss i).2.1 (nth ss i).2.2 ((xss.getD i []).map (Value.int .u8))) ∧
  ∀ i j, i < j → j < k → ∀ g, blk (nth ss i).1 = some g → blk (nth ss j).1 ≠ some g
/-- the slice and all that it holds is one's own, from block lo on and below hi, and reads as xss -/
def OwnSS (w : World) (lo hi : Nat) (A : Option Addr) (n c : Nat) (xss : List (List Int)) : Prop :=
  xss.length = n ∧ ∃ ss : List Sl, ss.length = n ∧ Own w lo hi 25 1 A n c (ss.map sl) ∧ InSS w lo hi ss xss n
theorem InSS.keep {w w' : World} {lo hi : Nat} {ss : List Sl} {xss : List (List Int)} {k : Nat} (h : InSS w lo hi ss xss k) (hk : ∀ g, lo ≤ g → g < hi → w'.heap[g]? = w.heap[g]?) : InSS w' lo hi ss xss k :=
  ⟨fun i hi' => (h.1 i hi').keep hk, h.2⟩
theorem InSS.wider {w : World} {lo hi l2 h2 : Nat} {ss : List Sl} {xss : List (List Int)} {k : Nat} (h : InSS w lo hi ss xss k) (hl : l2 ≤ lo) (hh : hi ≤ h2) : InSS w l2 h2 ss xss k :=
  ⟨fun i hi' => (h.1 i hi').wider hl hh, h.2⟩
theorem OwnSS.keep {w w' : World} {lo hi : Nat} {A : Option Addr} {n c : Nat} {xss : List (List Int)} (h : OwnSS w lo hi A n c xss) (hk : ∀ g, lo ≤ g → g < hi → w'.heap[g]? = w.heap[g]?) : OwnSS w' lo hi A n c xss := by
  obtain ⟨h0, ss, h1, h2, h3⟩ := h
  exact ⟨h0, ss, h1, h2.keep hk, h3.keep hk⟩
theorem OwnSS.below {w w' : World} {lo hi B : Nat} {A : Option Addr} {n c : Nat} {xss : List (List Int)} (h : OwnSS w lo hi A n c xss) (hb : Below B w w') (hB : hi ≤ B) : OwnSS w' lo hi A n c xss := h.keep fun g _ hg => hb.block g (by omega)
theorem OwnSS.turned {w w' : World} {lo hi l2 h2 : Nat} {A : Option Addr} {n c : Nat} {xss : List (List Int)} (h : OwnSS w lo hi A n c xss) (ht : Turned l2 h2 w w') (hd : hi ≤ l2 ∨ h2 ≤ lo) (hs : hi ≤ w.heap.size) : OwnSS w' lo hi A n c xss :=
  h.keep fun g h1 h2 => ht.block g (by omega) (by omega)
theorem OwnSS.wider {w : World} {lo hi l2 h2 : Nat} {A : Option Addr} {n c : Nat} {xss : List (List Int)} (h : OwnSS w lo hi A n c xss) (hl : l2 ≤ lo) (hh : hi ≤ h2) : OwnSS w l2 h2 A n c xss := by
  obtain ⟨h0, ss, h1, k2, h3⟩ := h
  exact ⟨h0, ss, h1, k2.wider hl hh, h3.wider hl hh⟩
theorem nth_map {ss : List Sl} {j : Nat} (hj : j < ss.length) : (ss.map sl)[j]? = some (sl (nth ss j)) := by
  simp [nth, List.getD, hj]
theorem OwnSS.rd {w : World} {lo hi : Nat} {A : Option Addr} {n c : Nat} {xss : List (List Int)} (h : OwnSS w lo hi A n c xss) : RdSS w A n c xss := by
  obtain ⟨h0, ss, h1, h2, h3⟩ := h
  have hr := h2.rd
  refine ⟨h0, hr.2.1, hr.2.2.1, fun hp => ?_⟩
  obtain ⟨g, o, rfl, hc⟩ := hr.2.2.2.2 (by simp; omega)
  refine ⟨g, o, rfl, fun j hj => ⟨(nth ss j).1, (nth ss j).2.1, (nth ss j).2.2, ?_, (h3.1 j hj).rd⟩⟩
  rw [hc j (by simp; omega), nth_map (by omega)]
  rfl

def AllShort (xss : List (List Int)) : Prop := ∀ i, (xss.getD i []).length ≤ 2097152
theorem sl_step {ss : List Sl} {Z : List Value} {k : Nat} (s : Sl) (h1 : ss.length = k) (h2 : k < Z.length) : (ss.map sl ++ Z.drop k).set k (sl s) = (ss ++ [s]).map sl ++ Z.drop (k + 1) := by
  subst h1
  rw [List.set_append_right _ _ (by simp), List.map_append, List.append_assoc]
  congr 1
  rw [List.length_map, Nat.sub_self, List.drop_eq_getElem_cons h2]
  rfl
theorem nth_old {ss : List Sl} {s : Sl} {i : Nat} (h : i < ss.length) : nth (ss ++ [s]) i = nth ss i := by
  simp [nth, List.getD, List.getElem?_append_left h]
theorem nth_new {ss : List Sl} {s : Sl} {k : Nat} (h : ss.length = k) : nth (ss ++ [s]) k = s := by
  subst h; simp [nth, List.getD]
theorem in_step {w : World} {lo hi h2 : Nat} {ss : List Sl} {xss : List (List Int)} {k : Nat} {s : Sl} (h : InSS w lo hi ss xss k) (hl : ss.length = k) (hs : Own w hi h2 5 1 s.1 s.2.1 s.2.2 ((xss.getD k []).map (Value.int .u8))) (hlo : lo ≤ hi) (hh : hi ≤ h2) : InSS w lo h2 (ss ++ [s]) xss (k + 1) := by
  refine ⟨fun i hi' => ?_, fun i j hij hj g hg => ?_⟩
  · rcases Nat.lt_or_ge i k with h3 | h3
    · rw [nth_old (by omega)]; exact (h.1 i h3).wider (Nat.le_refl _) hh
    · obtain rfl : i = k := by omega
      rw [nth_new hl]; exact hs.wider hlo (Nat.le_refl _)
  · rcases Nat.lt_or_ge j k with h3 | h3
    · rw [nth_old (by omega)] at hg ⊢; exact h.2 i j hij h3 g hg
    · obtain rfl : j = k := by omega
      rw [nth_old (by omega)] at hg
      rw [nth_new hl]
      intro e
      have h4 := (h.1 i hij).2 g hg
      have h5 := (blk_of_own hs.1 g e).1
      omega
theorem own_below {w w' : World} {base : Nat} {e : TypeId} {sz : Nat} {v : Value} {n : Nat} {xs : List Value} (h : w.ownsRow base e sz v n xs) (hb : Below w.heap.size w w') : w'.ownsRow base e sz v n xs :=
  h.kept (row := none) ⟨hb.os, hb.tape, hb.output, hb.size, fun k hk _ => hb.block k hk⟩ (by cases hv : v.ownBlock <;> simp)
theorem ssInfo : (Try.prog.info? 25).map (fun i => (i.zero, i.size, i.bytes)) = some (some (.slice none 0 0), 1, 24) := by kernel_rfl
/-- the call hands back a slice of byte slices in new memory -/
def RetSS (w : World) (n : Nat) (xss : List (List Int)) (x : Ending) (w' : World) : Prop :=
  ∃ A c, x = .returned (.slice A n c) ∧ OwnSS w' w.heap.size w'.heap.size A n c xss ∧ Below w.heap.size w w'
set_option maxHeartbeats 1000000 in
theorem toSS_any (A : Option Addr) (n c : Nat) (xss : List (List Int)) (w : World) (hr : RdSS w A n c xss) (hn : n ≤ 2097152) (hs : AllShort xss) :
    Calls Try.prog 59 #[.slice A n c] w (RetSS w n xss) := by
  obtain ⟨i0, hi, hz0, hz1, hz2⟩ := info_parts ssInfo
  have hl := Lib.hid hr.1
  have HR := Lib.hid hr
  have HS := Lib.hid hs
  clear hr hs
  go_enter Try.func59, Try.ntmps59
  go_wp2_with (at_make; refine wpList_make_full _ rfl _ _ 22 rfl w.heap.size 25 i0 (.slice none 0 0) 1 Try.underlying22 hi hz0 hz1 _ _ _ _ n rfl rfl rfl rfl ?b2 ?b3 (Nat.le_refl _) ?_)
  case b2 => rw [hz2]; omega
  case b3 => unfold maxLen; omega
  intro w0 hown0 hgrow0
  have hb0 : Below w.heap.size w w0 := (Below.refl _ _).grown hgrow0 (Nat.le_refl _) (fun k h => by cases h)
  clear hgrow0
  have hz' : ((madeCells #[Value.slice none 0 0] n).toList).length = n := by simp [size_madeCells]
  generalize (madeCells #[Value.slice none 0 0] n).toList = Z at hown0 hz'
  have HZ := Lib.hid hz'
  have HO := Lib.hid hown0
  clear hz' hown0
  go_wp2
  go_loopw [4] (fun v4 wr => ∃ (k : Nat) (ss : List Sl), k ≤ n ∧ v4 = .int .i64 (k : Int) ∧ ss.length = k ∧ wr.ownsRow w.heap.size 25 1 (.slice (some ⟨w.heap.size, 0, none⟩) n n) n (ss.map sl ++ Z.drop k) ∧ InSS wr (w.heap.size + 1) wr.heap.size ss xss k ∧ Below w.heap.size w wr) (fun v4 _ => n - (intOf v4).toNat)
  case atStart => exact ⟨0, [], Nat.zero_le _, rfl, rfl, HO.out, ⟨fun i h => absurd h (by omega), fun i j _ h => absurd h (by omega)⟩, hb0⟩
  case round =>
    obtain ⟨k, ss, hk, rfl, hls, hown, hin, hbr⟩ := hrel
    by_cases hlt : k < n
    · obtain ⟨g, o, A', n', c', rfl, hg, hc, hrd⟩ := (HR.out.below hbr).at_ hlt
      have hn' : n' ≤ 2097152 := by have h1 := HS.out k; have h2 := len_ints hrd; omega
      have HO := Lib.hid hown
      have HI := Lib.hid hin
      have HL := Lib.hid hls
      have hw0 := (hown.lt w.heap.size rfl).2
      have HX := Lib.hid (fun s => sl_step (ss := ss) (Z := Z) (k := k) s hls (by rw [HZ.out]; exact hlt))
      clear hown hin hls
      go_wp2_with fail
      refine (toByteS_any A' n' c' (xss.getD k []) _ hrd hn').mono ?_
      rintro x w1 ⟨A1, c1, rfl, hown1, hb⟩
      have h1 := own_below HO.out hb
      have hfr := h1.frozenAt k
      have hlen := h1.1
      obtain ⟨u, d0⟩ : ∃ u, w1.cell? ⟨w.heap.size, k, none⟩ = some u := ⟨_, by rw [h1.cellAt k (by omega), List.getElem?_eq_getElem (by omega)]⟩
      have HT := Lib.hid ((h1.stored k (sl (A1, n', c1))).1)
      have HB := Lib.hid ((stepB hbr hb hbr.size).setCell (p := ⟨w.heap.size, k, none⟩) (Nat.le_refl _) (sl (A1, n', c1)))
      have hI1 : InSS w1 (w.heap.size + 1) w1.heap.size (ss ++ [(A1, n', c1)]) xss (k + 1) := in_step (s := (A1, n', c1)) (HI.out.keep fun g _ hg => hb.block g hg) HL.out (Own.of hown1) hw0 hb.size
      have HN := Lib.hid (show InSS (w1.setCell ⟨w.heap.size, k, none⟩ (sl (A1, n', c1))) (w.heap.size + 1) (w1.setCell ⟨w.heap.size, k, none⟩ (sl (A1, n', c1))).heap.size (ss ++ [(A1, n', c1)]) xss (k + 1) from (hI1.keep fun g h1 _ => Below.heap_setCell w1 _ _ g (by simp; omega)).wider (Nat.le_refl _) (by simp [World.setCell]))
      have HL2 := Lib.hid (show (ss ++ [(A1, n', c1)]).length = k + 1 by simp [HL.out])
      have HX2 := Lib.hid (HX.out (A1, n', c1))
      clear h1 hlen hown1 hb hbr hb0 hc hrd hI1 HX
      go_wp2
      go_roundw
      case rel => exact ⟨k + 1, ss ++ [(A1, n', c1)], by omega, by go_num, HL2.out, by rw [← HX2.out]; exact HT.out, HN.out, HB.out⟩
      case measure => simp [intOf]; omega
    · obtain rfl : k = n := by omega
      have HA := Lib.hid (show ss.map sl ++ Z.drop k = ss.map sl by rw [List.drop_of_length_le (by rw [HZ.out]; exact Nat.le_refl _), List.append_nil])
      have HW := Lib.hid hown
      have HI := Lib.hid hin
      have HL := Lib.hid hls
      clear hown hin hls
      go_wp2
      go_ret
      exact ⟨_, _, rfl, ⟨hl.out, ss, HL.out, by have h := HW.out; rw [HA.out] at h; exact Own.of h, HI.out.wider (by omega) (Nat.le_refl _)⟩, hbr⟩
def totL (xss : List (List Int)) : Nat := (xss.map List.length).foldl (· + ·) 0
theorem foldl_add (l : List Nat) (a : Nat) : l.foldl (· + ·) a = a + l.foldl (· + ·) 0 := by
  induction l generalizing a with
  | nil => simp
  | cons x l ih => simp only [List.foldl_cons]; rw [ih (a + x), ih (0 + x)]; omega
theorem totL_cons (x : List Int) (xss : List (List Int)) : totL (x :: xss) = x.length + totL xss := by
  unfold totL
  rw [List.map_cons, List.foldl_cons, foldl_add]
  omega
theorem totL_app (xss yss : List (List Int)) : totL (xss ++ yss) = totL xss + totL yss := by
  induction xss with
  | nil => simp [totL]
  | cons x xss ih => rw [List.cons_append, totL_cons, totL_cons, ih]; omega
theorem take_ss {xss : List (List Int)} {k : Nat} (h : k < xss.length) : xss.take (k + 1) = xss.take k ++ [xss.getD k []] := by
  rw [List.take_succ_eq_append_getElem h]
  simp [List.getD, h]
theorem totL_step {xss : List (List Int)} {k : Nat} (h : k < xss.length) : totL (xss.take (k + 1)) = totL (xss.take k) + (xss.getD k []).length := by
  rw [take_ss h, totL_app]
  simp [totL]
theorem totL_le (xss : List (List Int)) (k : Nat) : totL (xss.take k) ≤ totL xss := by
  have := totL_app (xss.take k) (xss.drop k)
  rw [List.take_append_drop] at this
  omega
theorem short_of_tot {xss : List (List Int)} (h : totL xss ≤ 2097152) : AllShort xss := fun i => by
  rcases Nat.lt_or_ge i xss.length with hi | hi
  · have h1 := totL_step hi
    have h2 := totL_le xss (i + 1)
    omega
  · simp [List.getD, List.getElem?_eq_none hi]
theorem szB_any (A : Option Addr) (n c : Nat) (left : Int) (w : World) (h0 : 0 ≤ left) (h1 : left ≤ 1048576) (hn : n ≤ 9223372036854775807) : Calls Try.prog 92 #[.slice A n c, .int .i64 left] w fun x w' => x = .returned (.int .i64 (if left < n then -1 else left - n)) ∧ w = w' := by
  by_cases h : left < n
  · rw [if_pos h]
    go_enter Try.func92, Try.ntmps92
    go_wp2
    go_ret
    exact ⟨rfl, rfl⟩
  · rw [if_neg h]
    go_enter Try.func92, Try.ntmps92
    go_wp2
    go_ret
    exact ⟨rfl, rfl⟩
/-- what is left of a budget behind t, or -1 -/
def szOf (left : Int) (t : Nat) : Int := if left < (t : Int) then -1 else left - (t : Int)
theorem szOf_lt {left : Int} {t : Nat} (h : left < (t : Int)) : szOf left t = -1 := by unfold szOf; rw [if_pos h]
theorem szOf_ge {left : Int} {t : Nat} (h : ¬ left < (t : Int)) : szOf left t = left - (t : Int) := by unfold szOf; rw [if_neg h]
set_option maxHeartbeats 1000000 in
theorem szSS_any (A : Option Addr) (n c : Nat) (xss : List (List Int)) (left : Int) (w : World) (hr : RdSS w A n c xss) (h0 : 0 ≤ left) (h1 : left ≤ 1048576) : Calls Try.prog 57 #[.slice A n c, .int .i64 left] w fun x w' => x = .returned (.int .i64 (szOf left (n + totL xss))) ∧ w = w' := by
  have hl := Lib.hid hr.1
  have hm : n ≤ 9223372036854775807 := by have h1 := hr.2.1; have h2 := hr.2.2.1; unfold maxLen at h2; omega
  have HR := Lib.hid hr
  clear hr
  by_cases h : left < n
  · rw [szOf_lt (by omega)]
    go_enter Try.func57, Try.ntmps57
    go_wp2
    go_ret
    exact ⟨rfl, rfl⟩
  · have HT := Lib.hid (show ∀ k, totL (xss.take k) ≤ totL xss from totL_le xss)
    have HF := Lib.hid (show totL (xss.take n) = totL xss by rw [List.take_of_length_le (by rw [hl.out]; exact Nat.le_refl _)])
    go_enter Try.func57, Try.ntmps57
    go_wp2
    go_loop [1, 5] (fun v1 v5 => ∃ k : Nat, k ≤ n ∧ ((n + totL (xss.take k) : Nat) : Int) ≤ left ∧ v1 = .int .i64 (left - ((n + totL (xss.take k) : Nat) : Int)) ∧ v5 = .int .i64 (k : Int)) (fun _ v5 => n - (intOf v5).toNat)
    case atStart => exact ⟨0, Nat.zero_le _, by simp [totL]; omega, by simp [totL], rfl⟩
    case round =>
      obtain ⟨k, hk, hle, rfl, rfl⟩ := hrel
      by_cases hlt : k < n
      · obtain ⟨g, o, A', n', c', rfl, hg, hc, hrd⟩ := HR.out.at_ hlt
        have HS := Lib.hid (totL_step (xss := xss) (k := k) (by rw [hl.out]; exact hlt))
        have HN := Lib.hid (len_ints hrd)
        have hm' : n' ≤ 9223372036854775807 := by have h1 := hrd.2.1; have h2 := hrd.2.2.1; unfold maxLen at h2; omega
        have HQ := Lib.hid (HT.out (k + 1))
        clear hrd
        by_cases hx : left - ((n + totL (xss.take k) : Nat) : Int) < n'
        · have HG := Lib.hid (show left < ((n + totL xss : Nat) : Int) by have h1 := HS.out; have h2 := HN.out; have h3 := HQ.out; rw [h2] at h1; omega)
          have HZ := Lib.hid (szB_any A' n' c' (left - ((n + totL (xss.take k) : Nat) : Int)))
          have g0 : 0 ≤ left - ((n + totL (xss.take k) : Nat) : Int) := by omega
          have g1 : left - ((n + totL (xss.take k) : Nat) : Int) ≤ 1048576 := by omega
          generalize left - ((n + totL (xss.take k) : Nat) : Int) = L at *
          go_wp2_with (first | (go_at_call 92; refine (HZ.out _ g0 g1 hm').mono ?_; rintro x w' ⟨rfl, rfl⟩; rw [if_pos hx]))
          go_ret
          exact ⟨by rw [szOf_lt (by have := HG.out; omega)]; rfl, rfl⟩
        · have HZ := Lib.hid (szB_any A' n' c' (left - ((n + totL (xss.take k) : Nat) : Int)))
          have g0 : 0 ≤ left - ((n + totL (xss.take k) : Nat) : Int) := by omega
          have g1 : left - ((n + totL (xss.take k) : Nat) : Int) ≤ 1048576 := by omega
          have HE := Lib.hid (show left - ((n + totL (xss.take (k + 1)) : Nat) : Int) = left - ((n + totL (xss.take k) : Nat) : Int) - (n' : Int) by have h1 := HS.out; have h2 := HN.out; rw [h2] at h1; omega)
          have HL := Lib.hid (show ((n + totL (xss.take (k + 1)) : Nat) : Int) ≤ left by have h1 := HS.out; have h2 := HN.out; rw [h2] at h1; omega)
          have g2 : 0 ≤ left - ((n + totL (xss.take k) : Nat) : Int) - (n' : Int) := by omega
          generalize left - ((n + totL (xss.take k) : Nat) : Int) = L at *
          go_wp2_with (first | (go_at_call 92; refine (HZ.out _ g0 g1 hm').mono ?_; rintro x w' ⟨rfl, rfl⟩; rw [if_neg hx]))
          go_round
          case rel => exact ⟨k + 1, by omega, HL.out, by rw [HE.out], by go_num⟩
          case measure => simp [intOf]; omega
      · obtain rfl : k = n := by omega
        have HG := Lib.hid (show ¬ left < ((k + totL xss : Nat) : Int) by have := HF.out; omega)
        have HE := Lib.hid (show left - ((k + totL (xss.take k) : Nat) : Int) = left - ((k + totL xss : Nat) : Int) by rw [HF.out])
        generalize left - ((k + totL (xss.take k) : Nat) : Int) = L at *
        go_wp2
        go_ret
        exact ⟨by rw [szOf_ge (by have := HG.out; omega), ← HE.out]; rfl, rfl⟩
theorem ss_eq_step {xs ys : List (List Int)} {k : Nat} (h1 : k < xs.length) (h2 : k < ys.length) (h : xs.take k = ys.take k) (he : xs.getD k [] = ys.getD k []) : xs.take (k + 1) = ys.take (k + 1) := by
  rw [take_ss h1, take_ss h2, h, he]
set_option maxHeartbeats 1000000 in
theorem eqSS_laws (A : Option Addr) (n c : Nat) (xs : List (List Int)) (B : Option Addr) (m d : Nat) (ys : List (List Int)) (w : World) (hx : RdSS w A n c xs) (hy : RdSS w B m d ys) :
    Calls Try.prog 62 #[.slice A n c, .slice B m d] w (Says (xs = ys) w) := by
  have hl := Lib.hid hx.1
  have hk := Lib.hid hy.1
  have hn : n ≤ 9223372036854775807 := by have h1 := hx.2.1; have h2 := hx.2.2.1; unfold maxLen at h2; omega
  have HX := Lib.hid hx
  have HY := Lib.hid hy
  clear hx hy
  by_cases hnm : n = m
  · obtain rfl : m = n := hnm.symm
    go_enter Try.func62, Try.ntmps62
    go_wp2
    go_loopw [5] (fun v5 wr => ∃ k : Nat, k ≤ m ∧ v5 = .int .i64 (k : Int) ∧ xs.take k = ys.take k ∧ Below w.heap.size w wr) (fun v5 _ => m - (intOf v5).toNat)
    case atStart => exact ⟨0, Nat.zero_le _, rfl, rfl, Below.refl _ _⟩
    case round =>
      obtain ⟨k, hkm, rfl, heq, hbr⟩ := hrel
      have HE := Lib.hid heq
      clear heq
      by_cases hlt : k < m
      · obtain ⟨g, o, A', n', c', rfl, hg, hc, hrd⟩ := (HX.out.below hbr).at_ hlt
        obtain ⟨g2, o2, B', m', d', rfl, hg2, hc2, hrd2⟩ := (HY.out.below hbr).at_ hlt
        have HS := Lib.hid (fun he => ss_eq_step (k := k) (by rw [hl.out]; exact hlt) (by rw [hk.out]; exact hlt) HE.out he)
        have HN := Lib.hid (fun (hne : ¬ xs.getD k [] = ys.getD k []) (e : xs = ys) => hne (by rw [e]))
        have i0 : (0 : Int) ≤ (k : Int) := by omega
        have i1 : (k : Int) < (m : Int) := by omega
        have HB := Lib.hid hbr
        have HC := Lib.hid (show Calls Try.prog 15 #[.slice A' n' c', .slice B' m' d'] (wr.drewN 1) (Says (xs.getD k [] = ys.getD k []) (wr.drewN 1)) from eqByteS_laws A' n' c' (xs.getD k []) B' m' d' (ys.getD k []) _ (hrd.drewN 1) (hrd2.drewN 1))
        clear hbr hg hg2 hrd hrd2
        generalize xs.getD k [] = x at *
        generalize ys.getD k [] = y at *
        by_cases hxy : x = y
        · have HY2 := Lib.hid (HS.out hxy)
          have HD := Lib.hid (decide_eq_true hxy)
          clear HS HN hxy
          go_wp2
          refine wp_region_held_drew (S := (fun w' => w'.cell? ⟨g, o + k, none⟩ = some (.slice A' n' c') ∧ w'.cell? ⟨g2, o2 + k, none⟩ = some (.slice B' m' d'))) (by kernel_rfl) ?_ (fun hHeld => ?_)
          · (try dsimp only); exact ⟨hc, hc2⟩
          first | (refine wpAnyH_take (i := 0) (v := ?_) (Reg.get rfl) (by kernel_rfl) (by kernel_rfl) (by kernel_rfl) (fun _ _ _ h => h) (Or.inl ⟨by rfl, ?_⟩) hHeld ?_; rotate_left 1; (focus (intro wq hSw; (try dsimp only at hSw);  go_simp <;> with_reducible rfl))) | (refine wpAnyH_take (i := 0) (v := undef) (Reg.get rfl) (by kernel_rfl) (by kernel_rfl) (by kernel_rfl) (fun _ _ _ h => h) (Or.inr ⟨by rfl, rfl⟩) hHeld ?_)
          try simp only [Act.put, List.setIfInBounds_toArray, List.set_cons_zero, List.set_cons_succ]
          first | (refine wpAnyH_take (i := 1) (v := ?_) (Reg.get rfl) (by kernel_rfl) (by kernel_rfl) (by kernel_rfl) (fun _ _ _ h => h) (Or.inl ⟨by rfl, ?_⟩) hHeld ?_; rotate_left 1; (focus (intro wq hSw; (try dsimp only at hSw);  go_simp <;> with_reducible rfl))) | (refine wpAnyH_take (i := 1) (v := undef) (Reg.get rfl) (by kernel_rfl) (by kernel_rfl) (by kernel_rfl) (fun _ _ _ h => h) (Or.inr ⟨by rfl, rfl⟩) hHeld ?_)
          try simp only [Act.put, List.setIfInBounds_toArray, List.set_cons_zero, List.set_cons_succ]
          first | (refine wpAnyH_take (i := 2) (v := ?_) (Reg.get rfl) (by kernel_rfl) (by kernel_rfl) (by kernel_rfl) (fun _ _ _ h => h) (Or.inl ⟨by rfl, ?_⟩) hHeld ?_; rotate_left 1; (focus (intro wq hSw; (try dsimp only at hSw);  go_simp <;> with_reducible rfl))) | (refine wpAnyH_take (i := 2) (v := undef) (Reg.get rfl) (by kernel_rfl) (by kernel_rfl) (by kernel_rfl) (fun _ _ _ h => h) (Or.inr ⟨by rfl, rfl⟩) hHeld ?_)
          try simp only [Act.put, List.setIfInBounds_toArray, List.set_cons_zero, List.set_cons_succ]
          first | (refine wpAnyH_take (i := 3) (v := ?_) (Reg.get rfl) (by kernel_rfl) (by kernel_rfl) (by kernel_rfl) (fun _ _ _ h => h) (Or.inl ⟨by rfl, ?_⟩) hHeld ?_; rotate_left 1; (focus (intro wq hSw; (try dsimp only at hSw);  go_simp <;> with_reducible rfl))) | (refine wpAnyH_take (i := 3) (v := undef) (Reg.get rfl) (by kernel_rfl) (by kernel_rfl) (by kernel_rfl) (fun _ _ _ h => h) (Or.inr ⟨by rfl, rfl⟩) hHeld ?_)
          try simp only [Act.put, List.setIfInBounds_toArray, List.set_cons_zero, List.set_cons_succ]
          first | (refine wpAnyH_take (i := 4) (v := ?_) (Reg.get rfl) (by kernel_rfl) (by kernel_rfl) (by kernel_rfl) (fun _ _ _ h => h) (Or.inl ⟨by rfl, ?_⟩) hHeld ?_; rotate_left 1; (focus (intro wq hSw; (try dsimp only at hSw);  go_simp <;> with_reducible rfl))) | (refine wpAnyH_take (i := 4) (v := undef) (Reg.get rfl) (by kernel_rfl) (by kernel_rfl) (by kernel_rfl) (fun _ _ _ h => h) (Or.inr ⟨by rfl, rfl⟩) hHeld ?_)
          try simp only [Act.put, List.setIfInBounds_toArray, List.set_cons_zero, List.set_cons_succ]
          first | (refine wpAnyH_take (i := 5) (v := ?_) (Reg.get rfl) (by kernel_rfl) (by kernel_rfl) (by kernel_rfl) (fun _ _ _ h => h) (Or.inl ⟨by rfl, ?_⟩) hHeld ?_; rotate_left 1; (focus (intro wq hSw; (try dsimp only at hSw);  go_simp <;> with_reducible rfl))) | (refine wpAnyH_take (i := 5) (v := undef) (Reg.get rfl) (by kernel_rfl) (by kernel_rfl) (by kernel_rfl) (fun _ _ _ h => h) (Or.inr ⟨by rfl, rfl⟩) hHeld ?_)
          try simp only [Act.put, List.setIfInBounds_toArray, List.set_cons_zero, List.set_cons_succ]
          first | (refine wpAnyH_take (i := 6) (v := ?_) (Reg.get rfl) (by kernel_rfl) (by kernel_rfl) (by kernel_rfl) (fun _ _ _ h => h) (Or.inl ⟨by rfl, ?_⟩) hHeld ?_; rotate_left 1; (focus (intro wq hSw; (try dsimp only at hSw);  go_simp <;> with_reducible rfl))) | (refine wpAnyH_take (i := 6) (v := undef) (Reg.get rfl) (by kernel_rfl) (by kernel_rfl) (by kernel_rfl) (fun _ _ _ h => h) (Or.inr ⟨by rfl, rfl⟩) hHeld ?_)
          try simp only [Act.put, List.setIfInBounds_toArray, List.set_cons_zero, List.set_cons_succ]
          first | (refine wpAnyH_take (i := 7) (v := ?_) (Reg.get rfl) (by kernel_rfl) (by kernel_rfl) (by kernel_rfl) (fun _ _ _ h => h) (Or.inl ⟨by rfl, ?_⟩) hHeld ?_; rotate_left 1; (focus (intro wq hSw; (try dsimp only at hSw);  go_simp <;> with_reducible rfl))) | (refine wpAnyH_take (i := 7) (v := undef) (Reg.get rfl) (by kernel_rfl) (by kernel_rfl) (by kernel_rfl) (fun _ _ _ h => h) (Or.inr ⟨by rfl, rfl⟩) hHeld ?_)
          try simp only [Act.put, List.setIfInBounds_toArray, List.set_cons_zero, List.set_cons_succ]
          first | ((refine wpAnyH_take (i := 8) (v := undef) (Reg.get rfl) (by kernel_rfl) (by kernel_rfl) (by kernel_rfl) (fun _ _ _ h => h) (Or.inr ⟨by rfl, rfl⟩) hHeld ?_)) | (refine wpAnyH_ready (rs := [8]) (by kernel_rfl) (by simp) ?_; refine AllReadyH.cons (Reg.get rfl) (fun K hK => ?_) AllReadyH.nil; clear hHeld; go_simp; (first | ((go_at_call 15; refine HC.out.mono ?_; rintro e wn ⟨rfl, hb⟩; rw [HD.out]; replace hc := Mem.lift hb hc; replace hc2 := Mem.lift hb hc2; have HB2 := Lib.hid (stepB (Sls.below_drewN HB.out 1) hb HB.out.size); clear hb HC))); refine hK.out _ _ ?_ (fun hHeld => ?_); ((try dsimp only); exact ⟨hc, hc2⟩); clear hK K)
          try simp only [Act.put, List.setIfInBounds_toArray, List.set_cons_zero, List.set_cons_succ]
          first | (refine wpAnyH_take (i := 9) (v := ?_) (Reg.get rfl) (by kernel_rfl) (by kernel_rfl) (by kernel_rfl) (fun _ _ _ h => h) (Or.inl ⟨by rfl, ?_⟩) hHeld ?_; rotate_left 1; (focus (intro wq hSw; (try dsimp only at hSw);  go_simp <;> with_reducible rfl))) | (refine wpAnyH_take (i := 9) (v := undef) (Reg.get rfl) (by kernel_rfl) (by kernel_rfl) (by kernel_rfl) (fun _ _ _ h => h) (Or.inr ⟨by rfl, rfl⟩) hHeld ?_)
          try simp only [Act.put, List.setIfInBounds_toArray, List.set_cons_zero, List.set_cons_succ]
          refine wpAnyH_done (by kernel_rfl) ?_ _
          go_wp2
          go_roundw
          case rel => exact ⟨k + 1, by omega, by go_num, HY2.out, HB2.out⟩
          case measure => simp [intOf]; omega
        · have HN2 := Lib.hid (HN.out hxy)
          have HD := Lib.hid (decide_eq_false hxy)
          clear HS HN hxy
          go_wp2
          refine wp_region_held_drew (S := (fun w' => w'.cell? ⟨g, o + k, none⟩ = some (.slice A' n' c') ∧ w'.cell? ⟨g2, o2 + k, none⟩ = some (.slice B' m' d'))) (by kernel_rfl) ?_ (fun hHeld => ?_)
          · (try dsimp only); exact ⟨hc, hc2⟩
          first | (refine wpAnyH_take (i := 0) (v := ?_) (Reg.get rfl) (by kernel_rfl) (by kernel_rfl) (by kernel_rfl) (fun _ _ _ h => h) (Or.inl ⟨by rfl, ?_⟩) hHeld ?_; rotate_left 1; (focus (intro wq hSw; (try dsimp only at hSw);  go_simp <;> with_reducible rfl))) | (refine wpAnyH_take (i := 0) (v := undef) (Reg.get rfl) (by kernel_rfl) (by kernel_rfl) (by kernel_rfl) (fun _ _ _ h => h) (Or.inr ⟨by rfl, rfl⟩) hHeld ?_)
          try simp only [Act.put, List.setIfInBounds_toArray, List.set_cons_zero, List.set_cons_succ]
          first | (refine wpAnyH_take (i := 1) (v := ?_) (Reg.get rfl) (by kernel_rfl) (by kernel_rfl) (by kernel_rfl) (fun _ _ _ h => h) (Or.inl ⟨by rfl, ?_⟩) hHeld ?_; rotate_left 1; (focus (intro wq hSw; (try dsimp only at hSw);  go_simp <;> with_reducible rfl))) | (refine wpAnyH_take (i := 1) (v := undef) (Reg.get rfl) (by kernel_rfl) (by kernel_rfl) (by kernel_rfl) (fun _ _ _ h => h) (Or.inr ⟨by rfl, rfl⟩) hHeld ?_)
          try simp only [Act.put, List.setIfInBounds_toArray, List.set_cons_zero, List.set_cons_succ]
          first | (refine wpAnyH_take (i := 2) (v := ?_) (Reg.get rfl) (by kernel_rfl) (by kernel_rfl) (by kernel_rfl) (fun _ _ _ h => h) (Or.inl ⟨by rfl, ?_⟩) hHeld ?_; rotate_left 1; (focus (intro wq hSw; (try dsimp only at hSw);  go_simp <;> with_reducible rfl))) | (refine wpAnyH_take (i := 2) (v := undef) (Reg.get rfl) (by kernel_rfl) (by kernel_rfl) (by kernel_rfl) (fun _ _ _ h => h) (Or.inr ⟨by rfl, rfl⟩) hHeld ?_)
          try simp only [Act.put, List.setIfInBounds_toArray, List.set_cons_zero, List.set_cons_succ]
          first | (refine wpAnyH_take (i := 3) (v := ?_) (Reg.get rfl) (by kernel_rfl) (by kernel_rfl) (by kernel_rfl) (fun _ _ _ h => h) (Or.inl ⟨by rfl, ?_⟩) hHeld ?_; rotate_left 1; (focus (intro wq hSw; (try dsimp only at hSw);  go_simp <;> with_reducible rfl))) | (refine wpAnyH_take (i := 3) (v := undef) (Reg.get rfl) (by kernel_rfl) (by kernel_rfl) (by kernel_rfl) (fun _ _ _ h => h) (Or.inr ⟨by rfl, rfl⟩) hHeld ?_)
          try simp only [Act.put, List.setIfInBounds_toArray, List.set_cons_zero, List.set_cons_succ]
          first | (refine wpAnyH_take (i := 4) (v := ?_) (Reg.get rfl) (by kernel_rfl) (by kernel_rfl) (by kernel_rfl) (fun _ _ _ h => h) (Or.inl ⟨by rfl, ?_⟩) hHeld ?_; rotate_left 1; (focus (intro wq hSw; (try dsimp only at hSw);  go_simp <;> with_reducible rfl))) | (refine wpAnyH_take (i := 4) (v := undef) (Reg.get rfl) (by kernel_rfl) (by kernel_rfl) (by kernel_rfl) (fun _ _ _ h => h) (Or.inr ⟨by rfl, rfl⟩) hHeld ?_)
          try simp only [Act.put, List.setIfInBounds_toArray, List.set_cons_zero, List.set_cons_succ]
          first | (refine wpAnyH_take (i := 5) (v := ?_) (Reg.get rfl) (by kernel_rfl) (by kernel_rfl) (by kernel_rfl) (fun _ _ _ h => h) (Or.inl ⟨by rfl, ?_⟩) hHeld ?_; rotate_left 1; (focus (intro wq hSw; (try dsimp only at hSw);  go_simp <;> with_reducible rfl))) | (refine wpAnyH_take (i := 5) (v := undef) (Reg.get rfl) (by kernel_rfl) (by kernel_rfl) (by kernel_rfl) (fun _ _ _ h => h) (Or.inr ⟨by rfl, rfl⟩) hHeld ?_)
          try simp only [Act.put, List.setIfInBounds_toArray, List.set_cons_zero, List.set_cons_succ]
          first | (refine wpAnyH_take (i := 6) (v := ?_) (Reg.get rfl) (by kernel_rfl) (by kernel_rfl) (by kernel_rfl) (fun _ _ _ h => h) (Or.inl ⟨by rfl, ?_⟩) hHeld ?_; rotate_left 1; (focus (intro wq hSw; (try dsimp only at hSw);  go_simp <;> with_reducible rfl))) | (refine wpAnyH_take (i := 6) (v := undef) (Reg.get rfl) (by kernel_rfl) (by kernel_rfl) (by kernel_rfl) (fun _ _ _ h => h) (Or.inr ⟨by rfl, rfl⟩) hHeld ?_)
          try simp only [Act.put, List.setIfInBounds_toArray, List.set_cons_zero, List.set_cons_succ]
          first | (refine wpAnyH_take (i := 7) (v := ?_) (Reg.get rfl) (by kernel_rfl) (by kernel_rfl) (by kernel_rfl) (fun _ _ _ h => h) (Or.inl ⟨by rfl, ?_⟩) hHeld ?_; rotate_left 1; (focus (intro wq hSw; (try dsimp only at hSw);  go_simp <;> with_reducible rfl))) | (refine wpAnyH_take (i := 7) (v := undef) (Reg.get rfl) (by kernel_rfl) (by kernel_rfl) (by kernel_rfl) (fun _ _ _ h => h) (Or.inr ⟨by rfl, rfl⟩) hHeld ?_)
          try simp only [Act.put, List.setIfInBounds_toArray, List.set_cons_zero, List.set_cons_succ]
          first | ((refine wpAnyH_take (i := 8) (v := undef) (Reg.get rfl) (by kernel_rfl) (by kernel_rfl) (by kernel_rfl) (fun _ _ _ h => h) (Or.inr ⟨by rfl, rfl⟩) hHeld ?_)) | (refine wpAnyH_ready (rs := [8]) (by kernel_rfl) (by simp) ?_; refine AllReadyH.cons (Reg.get rfl) (fun K hK => ?_) AllReadyH.nil; clear hHeld; go_simp; (first | ((go_at_call 15; refine HC.out.mono ?_; rintro e wn ⟨rfl, hb⟩; rw [HD.out]; replace hc := Mem.lift hb hc; replace hc2 := Mem.lift hb hc2; have HB2 := Lib.hid (stepB (Sls.below_drewN HB.out 1) hb HB.out.size); clear hb HC))); refine hK.out _ _ ?_ (fun hHeld => ?_); ((try dsimp only); exact ⟨hc, hc2⟩); clear hK K)
          try simp only [Act.put, List.setIfInBounds_toArray, List.set_cons_zero, List.set_cons_succ]
          first | (refine wpAnyH_take (i := 9) (v := ?_) (Reg.get rfl) (by kernel_rfl) (by kernel_rfl) (by kernel_rfl) (fun _ _ _ h => h) (Or.inl ⟨by rfl, ?_⟩) hHeld ?_; rotate_left 1; (focus (intro wq hSw; (try dsimp only at hSw);  go_simp <;> with_reducible rfl))) | (refine wpAnyH_take (i := 9) (v := undef) (Reg.get rfl) (by kernel_rfl) (by kernel_rfl) (by kernel_rfl) (fun _ _ _ h => h) (Or.inr ⟨by rfl, rfl⟩) hHeld ?_)
          try simp only [Act.put, List.setIfInBounds_toArray, List.set_cons_zero, List.set_cons_succ]
          refine wpAnyH_done (by kernel_rfl) ?_ _
          go_wp2
          go_ret
          exact says_no HN2.out HB2.out
      · have HA := Lib.hid (show xs = ys by
          have h := HE.out
          rw [List.take_of_length_le (by rw [hl.out]; omega), List.take_of_length_le (by rw [hk.out]; omega)] at h
          exact h)
        have HB := Lib.hid hbr
        clear hbr
        go_wp2
        go_ret
        exact says_yes HA.out HB.out
  · have h1 : ((n : Int) == (m : Int)) = false := by rw [beq_eq_false_iff_ne]; omega
    have h2 : ((n : Int) != (m : Int)) = true := by rw [bne_iff_ne]; omega
    have hne := Lib.hid (show ¬ xs = ys from fun e => hnm (by rw [← hl.out, ← hk.out, e]))
    clear hnm
    go_enter Try.func62, Try.ntmps62
    go_wp2
    go_ret
    exact says_no hne.out (Below.refl _ _)
set_option maxHeartbeats 1000000 in
theorem eqSS_impl (A : Option Addr) (n c : Nat) (xs : List (List Int)) (B : Option Addr) (m d : Nat) (ys : List (List Int)) (w : World) (hx : RdSS w A n c xs) (hy : RdSS w B m d ys) :
    Calls Try.prog 73 #[.slice A n c, .slice B m d] w (Says (xs = ys) w) := by
  have hl := Lib.hid hx.1
  have hk := Lib.hid hy.1
  have hn : n ≤ 9223372036854775807 := by have h1 := hx.2.1; have h2 := hx.2.2.1; unfold maxLen at h2; omega
  have HX := Lib.hid hx
  have HY := Lib.hid hy
  clear hx hy
  by_cases hnm : n = m
  · obtain rfl : m = n := hnm.symm
    go_enter Try.func73, Try.ntmps73
    go_wp2
    go_loopw [13] (fun v5 wr => ∃ k : Nat, k ≤ m ∧ v5 = .int .i64 (k : Int) ∧ xs.take k = ys.take k ∧ Below w.heap.size w wr) (fun v5 _ => m - (intOf v5).toNat)
    case atStart => exact ⟨0, Nat.zero_le _, rfl, rfl, Below.refl _ _⟩
    case round =>
      obtain ⟨k, hkm, rfl, heq, hbr⟩ := hrel
      have HE := Lib.hid heq
      clear heq
      by_cases hlt : k < m
      · obtain ⟨g, o, A', n', c', rfl, hg, hc, hrd⟩ := (HX.out.below hbr).at_ hlt
        obtain ⟨g2, o2, B', m', d', rfl, hg2, hc2, hrd2⟩ := (HY.out.below hbr).at_ hlt
        have HS := Lib.hid (fun he => ss_eq_step (k := k) (by rw [hl.out]; exact hlt) (by rw [hk.out]; exact hlt) HE.out he)
        have HN := Lib.hid (fun (hne : ¬ xs.getD k [] = ys.getD k []) (e : xs = ys) => hne (by rw [e]))
        have i0 : (0 : Int) ≤ (k : Int) := by omega
        have i1 : (k : Int) < (m : Int) := by omega
        have HB := Lib.hid hbr
        have HC := Lib.hid (show Calls Try.prog 97 #[.slice A' n' c', .slice B' m' d'] (wr.drewN 1) (Says (xs.getD k [] = ys.getD k []) (wr.drewN 1)) from EqualBytes_impl A' n' c' (xs.getD k []) B' m' d' (ys.getD k []) _ (hrd.drewN 1) (hrd2.drewN 1))
        clear hbr hg hg2 hrd hrd2
        generalize xs.getD k [] = x at *
        generalize ys.getD k [] = y at *
        by_cases hxy : x = y
        · have HY2 := Lib.hid (HS.out hxy)
          have HD := Lib.hid (decide_eq_true hxy)
          clear HS HN hxy
          go_wp2
          refine wp_region_held_drew (S := (fun w' => w'.cell? ⟨g, o + k, none⟩ = some (.slice A' n' c') ∧ w'.cell? ⟨g2, o2 + k, none⟩ = some (.slice B' m' d'))) (by kernel_rfl) ?_ (fun hHeld => ?_)
          · (try dsimp only); exact ⟨hc, hc2⟩
          first | (refine wpAnyH_take (i := 0) (v := ?_) (Reg.get rfl) (by kernel_rfl) (by kernel_rfl) (by kernel_rfl) (fun _ _ _ h => h) (Or.inl ⟨by rfl, ?_⟩) hHeld ?_; rotate_left 1; (focus (intro wq hSw; (try dsimp only at hSw);  go_simp <;> with_reducible rfl))) | (refine wpAnyH_take (i := 0) (v := undef) (Reg.get rfl) (by kernel_rfl) (by kernel_rfl) (by kernel_rfl) (fun _ _ _ h => h) (Or.inr ⟨by rfl, rfl⟩) hHeld ?_)
          try simp only [Act.put, List.setIfInBounds_toArray, List.set_cons_zero, List.set_cons_succ]
          first | (refine wpAnyH_take (i := 1) (v := ?_) (Reg.get rfl) (by kernel_rfl) (by kernel_rfl) (by kernel_rfl) (fun _ _ _ h => h) (Or.inl ⟨by rfl, ?_⟩) hHeld ?_; rotate_left 1; (focus (intro wq hSw; (try dsimp only at hSw);  go_simp <;> with_reducible rfl))) | (refine wpAnyH_take (i := 1) (v := undef) (Reg.get rfl) (by kernel_rfl) (by kernel_rfl) (by kernel_rfl) (fun _ _ _ h => h) (Or.inr ⟨by rfl, rfl⟩) hHeld ?_)
          try simp only [Act.put, List.setIfInBounds_toArray, List.set_cons_zero, List.set_cons_succ]
          first | (refine wpAnyH_take (i := 2) (v := ?_) (Reg.get rfl) (by kernel_rfl) (by kernel_rfl) (by kernel_rfl) (fun _ _ _ h => h) (Or.inl ⟨by rfl, ?_⟩) hHeld ?_; rotate_left 1; (focus (intro wq hSw; (try dsimp only at hSw);  go_simp <;> with_reducible rfl))) | (refine wpAnyH_take (i := 2) (v := undef) (Reg.get rfl) (by kernel_rfl) (by kernel_rfl) (by kernel_rfl) (fun _ _ _ h => h) (Or.inr ⟨by rfl, rfl⟩) hHeld ?_)
          try simp only [Act.put, List.setIfInBounds_toArray, List.set_cons_zero, List.set_cons_succ]
          first | (refine wpAnyH_take (i := 3) (v := ?_) (Reg.get rfl) (by kernel_rfl) (by kernel_rfl) (by kernel_rfl) (fun _ _ _ h => h) (Or.inl ⟨by rfl, ?_⟩) hHeld ?_; rotate_left 1; (focus (intro wq hSw; (try dsimp only at hSw);  go_simp <;> with_reducible rfl))) | (refine wpAnyH_take (i := 3) (v := undef) (Reg.get rfl) (by kernel_rfl) (by kernel_rfl) (by kernel_rfl) (fun _ _ _ h => h) (Or.inr ⟨by rfl, rfl⟩) hHeld ?_)
          try simp only [Act.put, List.setIfInBounds_toArray, List.set_cons_zero, List.set_cons_succ]
          first | (refine wpAnyH_take (i := 4) (v := ?_) (Reg.get rfl) (by kernel_rfl) (by kernel_rfl) (by kernel_rfl) (fun _ _ _ h => h) (Or.inl ⟨by rfl, ?_⟩) hHeld ?_; rotate_left 1; (focus (intro wq hSw; (try dsimp only at hSw);  go_simp <;> with_reducible rfl))) | (refine wpAnyH_take (i := 4) (v := undef) (Reg.get rfl) (by kernel_rfl) (by kernel_rfl) (by kernel_rfl) (fun _ _ _ h => h) (Or.inr ⟨by rfl, rfl⟩) hHeld ?_)
          try simp only [Act.put, List.setIfInBounds_toArray, List.set_cons_zero, List.set_cons_succ]
          first | (refine wpAnyH_take (i := 5) (v := ?_) (Reg.get rfl) (by kernel_rfl) (by kernel_rfl) (by kernel_rfl) (fun _ _ _ h => h) (Or.inl ⟨by rfl, ?_⟩) hHeld ?_; rotate_left 1; (focus (intro wq hSw; (try dsimp only at hSw);  go_simp <;> with_reducible rfl))) | (refine wpAnyH_take (i := 5) (v := undef) (Reg.get rfl) (by kernel_rfl) (by kernel_rfl) (by kernel_rfl) (fun _ _ _ h => h) (Or.inr ⟨by rfl, rfl⟩) hHeld ?_)
          try simp only [Act.put, List.setIfInBounds_toArray, List.set_cons_zero, List.set_cons_succ]
          first | (refine wpAnyH_take (i := 6) (v := ?_) (Reg.get rfl) (by kernel_rfl) (by kernel_rfl) (by kernel_rfl) (fun _ _ _ h => h) (Or.inl ⟨by rfl, ?_⟩) hHeld ?_; rotate_left 1; (focus (intro wq hSw; (try dsimp only at hSw);  go_simp <;> with_reducible rfl))) | (refine wpAnyH_take (i := 6) (v := undef) (Reg.get rfl) (by kernel_rfl) (by kernel_rfl) (by kernel_rfl) (fun _ _ _ h => h) (Or.inr ⟨by rfl, rfl⟩) hHeld ?_)
          try simp only [Act.put, List.setIfInBounds_toArray, List.set_cons_zero, List.set_cons_succ]
          first | (refine wpAnyH_take (i := 7) (v := ?_) (Reg.get rfl) (by kernel_rfl) (by kernel_rfl) (by kernel_rfl) (fun _ _ _ h => h) (Or.inl ⟨by rfl, ?_⟩) hHeld ?_; rotate_left 1; (focus (intro wq hSw; (try dsimp only at hSw);  go_simp <;> with_reducible rfl))) | (refine wpAnyH_take (i := 7) (v := undef) (Reg.get rfl) (by kernel_rfl) (by kernel_rfl) (by kernel_rfl) (fun _ _ _ h => h) (Or.inr ⟨by rfl, rfl⟩) hHeld ?_)
          try simp only [Act.put, List.setIfInBounds_toArray, List.set_cons_zero, List.set_cons_succ]
          first | ((refine wpAnyH_take (i := 8) (v := undef) (Reg.get rfl) (by kernel_rfl) (by kernel_rfl) (by kernel_rfl) (fun _ _ _ h => h) (Or.inr ⟨by rfl, rfl⟩) hHeld ?_)) | (refine wpAnyH_ready (rs := [8]) (by kernel_rfl) (by simp) ?_; refine AllReadyH.cons (Reg.get rfl) (fun K hK => ?_) AllReadyH.nil; clear hHeld; go_simp; (first | ((go_at_call 97; refine HC.out.mono ?_; rintro e wn ⟨rfl, hb⟩; rw [HD.out]; replace hc := Mem.lift hb hc; replace hc2 := Mem.lift hb hc2; have HB2 := Lib.hid (stepB (Sls.below_drewN HB.out 1) hb HB.out.size); clear hb HC))); refine hK.out _ _ ?_ (fun hHeld => ?_); ((try dsimp only); exact ⟨hc, hc2⟩); clear hK K)
          try simp only [Act.put, List.setIfInBounds_toArray, List.set_cons_zero, List.set_cons_succ]
          first | (refine wpAnyH_take (i := 9) (v := ?_) (Reg.get rfl) (by kernel_rfl) (by kernel_rfl) (by kernel_rfl) (fun _ _ _ h => h) (Or.inl ⟨by rfl, ?_⟩) hHeld ?_; rotate_left 1; (focus (intro wq hSw; (try dsimp only at hSw);  go_simp <;> with_reducible rfl))) | (refine wpAnyH_take (i := 9) (v := undef) (Reg.get rfl) (by kernel_rfl) (by kernel_rfl) (by kernel_rfl) (fun _ _ _ h => h) (Or.inr ⟨by rfl, rfl⟩) hHeld ?_)
          try simp only [Act.put, List.setIfInBounds_toArray, List.set_cons_zero, List.set_cons_succ]
          refine wpAnyH_done (by kernel_rfl) ?_ _
          go_wp2
          go_roundw
          case rel => exact ⟨k + 1, by omega, by go_num, HY2.out, HB2.out⟩
          case measure => simp [intOf]; omega
        · have HN2 := Lib.hid (HN.out hxy)
          have HD := Lib.hid (decide_eq_false hxy)
          clear HS HN hxy
          go_wp2
          refine wp_region_held_drew (S := (fun w' => w'.cell? ⟨g, o + k, none⟩ = some (.slice A' n' c') ∧ w'.cell? ⟨g2, o2 + k, none⟩ = some (.slice B' m' d'))) (by kernel_rfl) ?_ (fun hHeld => ?_)
          · (try dsimp only); exact ⟨hc, hc2⟩
          first | (refine wpAnyH_take (i := 0) (v := ?_) (Reg.get rfl) (by kernel_rfl) (by kernel_rfl) (by kernel_rfl) (fun _ _ _ h => h) (Or.inl ⟨by rfl, ?_⟩) hHeld ?_; rotate_left 1; (focus (intro wq hSw; (try dsimp only at hSw);  go_simp <;> with_reducible rfl))) | (refine wpAnyH_take (i := 0) (v := undef) (Reg.get rfl) (by kernel_rfl) (by kernel_rfl) (by kernel_rfl) (fun _ _ _ h => h) (Or.inr ⟨by rfl, rfl⟩) hHeld ?_)
          try simp only [Act.put, List.setIfInBounds_toArray, List.set_cons_zero, List.set_cons_succ]
          first | (refine wpAnyH_take (i := 1) (v := ?_) (Reg.get rfl) (by kernel_rfl) (by kernel_rfl) (by kernel_rfl) (fun _ _ _ h => h) (Or.inl ⟨by rfl, ?_⟩) hHeld ?_; rotate_left 1; (focus (intro wq hSw; (try dsimp only at hSw);  go_simp <;> with_reducible rfl))) | (refine wpAnyH_take (i := 1) (v := undef) (Reg.get rfl) (by kernel_rfl) (by kernel_rfl) (by kernel_rfl) (fun _ _ _ h => h) (Or.inr ⟨by rfl, rfl⟩) hHeld ?_)
          try simp only [Act.put, List.setIfInBounds_toArray, List.set_cons_zero, List.set_cons_succ]
          first | (refine wpAnyH_take (i := 2) (v := ?_) (Reg.get rfl) (by kernel_rfl) (by kernel_rfl) (by kernel_rfl) (fun _ _ _ h => h) (Or.inl ⟨by rfl, ?_⟩) hHeld ?_; rotate_left 1; (focus (intro wq hSw; (try dsimp only at hSw);  go_simp <;> with_reducible rfl))) | (refine wpAnyH_take (i := 2) (v := undef) (Reg.get rfl) (by kernel_rfl) (by kernel_rfl) (by kernel_rfl) (fun _ _ _ h => h) (Or.inr ⟨by rfl, rfl⟩) hHeld ?_)
          try simp only [Act.put, List.setIfInBounds_toArray, List.set_cons_zero, List.set_cons_succ]
          first | (refine wpAnyH_take (i := 3) (v := ?_) (Reg.get rfl) (by kernel_rfl) (by kernel_rfl) (by kernel_rfl) (fun _ _ _ h => h) (Or.inl ⟨by rfl, ?_⟩) hHeld ?_; rotate_left 1; (focus (intro wq hSw; (try dsimp only at hSw);  go_simp <;> with_reducible rfl))) | (refine wpAnyH_take (i := 3) (v := undef) (Reg.get rfl) (by kernel_rfl) (by kernel_rfl) (by kernel_rfl) (fun _ _ _ h => h) (Or.inr ⟨by rfl, rfl⟩) hHeld ?_)
          try simp only [Act.put, List.setIfInBounds_toArray, List.set_cons_zero, List.set_cons_succ]
          first | (refine wpAnyH_take (i := 4) (v := ?_) (Reg.get rfl) (by kernel_rfl) (by kernel_rfl) (by kernel_rfl) (fun _ _ _ h => h) (Or.inl ⟨by rfl, ?_⟩) hHeld ?_; rotate_left 1; (focus (intro wq hSw; (try dsimp only at hSw);  go_simp <;> with_reducible rfl))) | (refine wpAnyH_take (i := 4) (v := undef) (Reg.get rfl) (by kernel_rfl) (by kernel_rfl) (by kernel_rfl) (fun _ _ _ h => h) (Or.inr ⟨by rfl, rfl⟩) hHeld ?_)
          try simp only [Act.put, List.setIfInBounds_toArray, List.set_cons_zero, List.set_cons_succ]
          first | (refine wpAnyH_take (i := 5) (v := ?_) (Reg.get rfl) (by kernel_rfl) (by kernel_rfl) (by kernel_rfl) (fun _ _ _ h => h) (Or.inl ⟨by rfl, ?_⟩) hHeld ?_; rotate_left 1; (focus (intro wq hSw; (try dsimp only at hSw);  go_simp <;> with_reducible rfl))) | (refine wpAnyH_take (i := 5) (v := undef) (Reg.get rfl) (by kernel_rfl) (by kernel_rfl) (by kernel_rfl) (fun _ _ _ h => h) (Or.inr ⟨by rfl, rfl⟩) hHeld ?_)
          try simp only [Act.put, List.setIfInBounds_toArray, List.set_cons_zero, List.set_cons_succ]
          first | (refine wpAnyH_take (i := 6) (v := ?_) (Reg.get rfl) (by kernel_rfl) (by kernel_rfl) (by kernel_rfl) (fun _ _ _ h => h) (Or.inl ⟨by rfl, ?_⟩) hHeld ?_; rotate_left 1; (focus (intro wq hSw; (try dsimp only at hSw);  go_simp <;> with_reducible rfl))) | (refine wpAnyH_take (i := 6) (v := undef) (Reg.get rfl) (by kernel_rfl) (by kernel_rfl) (by kernel_rfl) (fun _ _ _ h => h) (Or.inr ⟨by rfl, rfl⟩) hHeld ?_)
          try simp only [Act.put, List.setIfInBounds_toArray, List.set_cons_zero, List.set_cons_succ]
          first | (refine wpAnyH_take (i := 7) (v := ?_) (Reg.get rfl) (by kernel_rfl) (by kernel_rfl) (by kernel_rfl) (fun _ _ _ h => h) (Or.inl ⟨by rfl, ?_⟩) hHeld ?_; rotate_left 1; (focus (intro wq hSw; (try dsimp only at hSw);  go_simp <;> with_reducible rfl))) | (refine wpAnyH_take (i := 7) (v := undef) (Reg.get rfl) (by kernel_rfl) (by kernel_rfl) (by kernel_rfl) (fun _ _ _ h => h) (Or.inr ⟨by rfl, rfl⟩) hHeld ?_)
          try simp only [Act.put, List.setIfInBounds_toArray, List.set_cons_zero, List.set_cons_succ]
          first | ((refine wpAnyH_take (i := 8) (v := undef) (Reg.get rfl) (by kernel_rfl) (by kernel_rfl) (by kernel_rfl) (fun _ _ _ h => h) (Or.inr ⟨by rfl, rfl⟩) hHeld ?_)) | (refine wpAnyH_ready (rs := [8]) (by kernel_rfl) (by simp) ?_; refine AllReadyH.cons (Reg.get rfl) (fun K hK => ?_) AllReadyH.nil; clear hHeld; go_simp; (first | ((go_at_call 97; refine HC.out.mono ?_; rintro e wn ⟨rfl, hb⟩; rw [HD.out]; replace hc := Mem.lift hb hc; replace hc2 := Mem.lift hb hc2; have HB2 := Lib.hid (stepB (Sls.below_drewN HB.out 1) hb HB.out.size); clear hb HC))); refine hK.out _ _ ?_ (fun hHeld => ?_); ((try dsimp only); exact ⟨hc, hc2⟩); clear hK K)
          try simp only [Act.put, List.setIfInBounds_toArray, List.set_cons_zero, List.set_cons_succ]
          first | (refine wpAnyH_take (i := 9) (v := ?_) (Reg.get rfl) (by kernel_rfl) (by kernel_rfl) (by kernel_rfl) (fun _ _ _ h => h) (Or.inl ⟨by rfl, ?_⟩) hHeld ?_; rotate_left 1; (focus (intro wq hSw; (try dsimp only at hSw);  go_simp <;> with_reducible rfl))) | (refine wpAnyH_take (i := 9) (v := undef) (Reg.get rfl) (by kernel_rfl) (by kernel_rfl) (by kernel_rfl) (fun _ _ _ h => h) (Or.inr ⟨by rfl, rfl⟩) hHeld ?_)
          try simp only [Act.put, List.setIfInBounds_toArray, List.set_cons_zero, List.set_cons_succ]
          refine wpAnyH_done (by kernel_rfl) ?_ _
          go_wp2
          go_ret
          exact says_no HN2.out HB2.out
      · have HA := Lib.hid (show xs = ys by
          have h := HE.out
          rw [List.take_of_length_le (by rw [hl.out]; omega), List.take_of_length_le (by rw [hk.out]; omega)] at h
          exact h)
        have HB := Lib.hid hbr
        clear hbr
        go_wp2
        go_ret
        exact says_yes HA.out HB.out
  · have h1 : ((n : Int) == (m : Int)) = false := by rw [beq_eq_false_iff_ne]; omega
    have h2 : ((n : Int) != (m : Int)) = true := by rw [bne_iff_ne]; omega
    have hne := Lib.hid (show ¬ xs = ys from fun e => hnm (by rw [← hl.out, ← hk.out, e]))
    clear hnm
    go_enter Try.func73, Try.ntmps73
    go_wp2
    go_ret
    exact says_no hne.out (Below.refl _ _)
end Go.Proofs.Ythdieeaegplnmaa.SS
