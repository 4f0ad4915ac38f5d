/- The walk of the law that a sleeping station misses nothing. -/
import Derived.Test.YthdieeaegplnmaaPbR
import Derived.Test.YthdieeaegplnmaaSlp
import Derived.Test.YthdieeaegplnmaaTwoL
import Derived.Test.YthdieeaegplnmaaSame
import Derived.Test.YthdieeaegplnmaaAt
namespace Go.Proofs.Ythdieeaegplnmaa.Pb
open Go.RowKit
open Go.Proofs.Ythdieeaegplnmaa.Num Go.Proofs.Ythdieeaegplnmaa.Mem Go.Proofs.Ythdieeaegplnmaa.Hsh Go.Proofs.Ythdieeaegplnmaa.Sls Go.Proofs.Ythdieeaegplnmaa.Own Go.Proofs.Ythdieeaegplnmaa.SS Go.Proofs.Ythdieeaegplnmaa.Gb Go.Proofs.Ythdieeaegplnmaa.Slp
set_option linter.unusedSimpArgs false
set_option linter.unusedVariables false
theorem newG_in (p : Int) (w : World) (h1 : 1 ≤ p) (h8 : p ≤ 8) : Calls Try.prog 31 #[.int .i64 p] w fun x w' => x = .returned (.agg #[.int .i64 p, .slice (some ⟨w.heap.size + 1, 0, none⟩) 0 0, .int .i64 0]) ∧ Below w.heap.size w w' := by
  go_enter Try.func31, Try.ntmps31
  go_wp2_with (first | (go_at_call 74; refine (in_impl_yes _ _ _ _ (by omega) (by omega)).mono ?_; rintro e w' ⟨rfl, rfl⟩))
  go_returns
  exact ⟨rfl, by go_grown⟩
section
variable {w w' : World} {lo hi l2 h2 n c : Nat} {A : Option Addr} {ks : List Kt}
theorem PbIn.wider (h : PbIn w lo hi A n c ks) (hl : l2 ≤ lo) (hh : hi ≤ h2) : PbIn w l2 h2 A n c ks := fun w2 hag => h w2 fun q _ _ => hag q (by omega) (by omega)
theorem PbIn.next (h : PbIn w lo w.heap.size A n c ks) (hs : w.heap.size ≤ w'.heap.size) (hk : ∀ q, lo ≤ q → q < w.heap.size → w'.heap[q]? = w.heap[q]?) : PbIn w' lo w'.heap.size A n c ks := (h.keep hk).wider (Nat.le_refl _) hs
theorem PbIn.below2 (h : PbIn w lo w.heap.size A n c ks) (hb : Below w.heap.size w w') : PbIn w' lo w'.heap.size A n c ks := h.next hb.size fun q _ hq => hb.block q hq
end
/-- one station, asleep, with the frames fs -/
def oneK (st : Int) (fs : List (List Int)) : List Kt := [⟨st, true, fs, 0⟩]
theorem oneK_nth (st : Int) (fs : List (List Int)) : nthK (oneK st fs) 0 = ⟨st, true, fs, 0⟩ := rfl
theorem oneK_set (st : Int) (fs : List (List Int)) (ys : List (List Int)) : (oneK st fs).set 0 { nthK (oneK st fs) 0 with fs := ys } = oneK st ys := rfl
theorem oneK_find (st : Int) (fs : List (List Int)) : FindR (oneK st fs) st 1 0 := .inr ⟨0, by omega, rfl, rfl, fun l h => absurd h (by omega)⟩
/-- every frame has two bytes -/
def Twos (fs : List (List Int)) : Prop := ∀ x ∈ fs, x.length = 2
theorem twos_at {fs : List (List Int)} (h : Twos fs) (i : Nat) : (fs.getD i []).length ≤ 2 := by
  rw [List.getD_eq_getElem?_getD]
  cases hx : fs[i]? with
  | none => simp
  | some x => have := h x (List.mem_of_getElem? hx); simp [this]
theorem oneK_few {st : Int} {fs : List (List Int)} (h : fs.length ≤ 6) (h2 : Twos fs) : AllFew (oneK st fs) := fun i => by
  cases i with
  | zero => exact ⟨by show fs.length ≤ _; omega, fun j => by have := twos_at h2 j; show (fs.getD j []).length ≤ _; omega⟩
  | succ i => exact ⟨by show ([] : List (List Int)).length ≤ _; simp, fun j => by show (([] : List (List Int)).getD j []).length ≤ _; simp⟩
theorem oneK_valid {st : Int} {fs : List (List Int)} (h0 : 0 ≤ st) (h15 : st ≤ 15) (h : fs.length ≤ 6) (h2 : Twos fs) : validP (oneK st fs) 1 := fun i hi => by
  obtain rfl : i = 0 := by omega
  exact ⟨⟨⟨h0, h15⟩, by show (-1 : Int) < st; omega, Int.le_refl _, h, .inl rfl⟩, fun j hj => by have := twos_at h2 j; show (fs.getD j []).length ≤ _; omega⟩
/-- the map of stations -/
def tiK (st : Int) (fs : List (List Int)) : Int := if fs = [] then 0 else orS 0 st
theorem oneK_tim {st : Int} {fs : List (List Int)} (h0 : 0 ≤ st) (h15 : st ≤ 15) : timK (oneK st fs) 1 = tiK st fs := by
  show (if (0 ≤ st ∧ st ≤ 15) ∧ 0 < (fs.length : Int) then orS 0 st else 0) = tiK st fs
  unfold tiK
  cases fs with
  | nil => rw [if_neg (by simp), if_pos rfl]
  | cons x l => rw [if_pos ⟨⟨h0, h15⟩, by simp⟩, if_neg (by simp)]
theorem tiK_in {st : Int} {fs : List (List Int)} (h0 : 0 ≤ st) (h15 : st ≤ 15) : 0 ≤ tiK st fs ∧ tiK st fs ≤ 65535 := by
  unfold tiK
  split
  · omega
  · exact one_in h0 h15
theorem tiK_on {st : Int} {fs : List (List Int)} (h0 : 0 ≤ st) (h15 : st ≤ 15) (h : fs ≠ []) : (bits .and .i64 (shf (tiK st fs) st) 1 == 1) = true := by
  unfold tiK
  rw [if_neg h]
  exact shf_one h0 h15
theorem tiK_off {st : Int} (h0 : 0 ≤ st) (h15 : st ≤ 15) : (bits .and .i64 (shf (tiK st []) st) 1 == 1) = false := by
  unfold tiK
  rw [if_pos rfl]
  exact shf_zero h0 h15
theorem beac_ok {st pe : Int} {b : Nat} {fs : List (List Int)} (h0 : 0 ≤ st) (h15 : st ≤ 15) (p1 : 1 ≤ pe) (p8 : pe ≤ 8) (hb : b ≤ 100) : validB ((st + 1) % 16) (10 * (b : Int)) (Bcn.dcount (10 * (b : Int)) pe) pe false (tiK st fs) := by
  have hd := Bcn.dcount_in (s := 10 * (b : Int)) ⟨by omega, by omega, by omega⟩ p1 p8
  have h1 := Int.emod_nonneg (-(10 * (b : Int) / 10)) (show pe ≠ 0 by omega)
  have h2 := Int.emod_lt_of_pos (-(10 * (b : Int) / 10)) (show 0 < pe by omega)
  refine ⟨⟨by omega, by omega⟩, ⟨by omega, by omega⟩, by simp, ⟨p1, p8⟩, ⟨by rw [hd]; exact h1, by rw [hd]; omega⟩, tiK_in h0 h15, .inl rfl⟩
theorem mod_step {b L : Int} (l1 : 1 ≤ L) (l8 : L ≤ 8) (hb : 1 ≤ b) : (0 ≤ (b - 1) % L ∧ (b - 1) % L ≤ L - 1) ∧ (((b - 1) % L + 1 = L ∧ b % L = 0) ∨ ((b - 1) % L + 1 ≠ L ∧ b % L = (b - 1) % L + 1)) := by
  have hL : L = 1 ∨ L = 2 ∨ L = 3 ∨ L = 4 ∨ L = 5 ∨ L = 6 ∨ L = 7 ∨ L = 8 := by omega
  rcases hL with rfl | rfl | rfl | rfl | rfl | rfl | rfl | rfl <;> omega
theorem mod_four {L : Int} (l1 : 1 ≤ L) (l8 : L ≤ 8) : (4 * L + 1 - 1) % L = 0 := by
  have hL : L = 1 ∨ L = 2 ∨ L = 3 ∨ L = 4 ∨ L = 5 ∨ L = 6 ∨ L = 7 ∨ L = 8 := by omega
  rcases hL with rfl | rfl | rfl | rfl | rfl | rfl | rfl | rfl <;> omega
theorem mk_one (pe st : Int) (b : Nat) (G Ap : Option Addr) (cp : Nat) (fs : List (List Int)) (w : World) (h0 : 0 ≤ st) (h15 : st ≤ 15) (p1 : 1 ≤ pe) (p8 : pe ≤ 8) (hb : b ≤ 100) (hf : fs.length ≤ 6) (h2 : Twos fs) (hp : RdPB w Ap 1 cp (oneK st fs)) :
    Calls Try.prog 21 #[.agg #[.int .i64 pe, .slice G 0 0, .int .i64 0], .agg #[.slice Ap 1 cp], .int .i64 ((st + 1) % 16), .int .i64 (10 * (b : Int))] w fun x w' => x = .returned (.tuple #[.agg #[.int .i64 ((st + 1) % 16), .int .i64 (10 * (b : Int)), .int .i64 (Bcn.dcount (10 * (b : Int)) pe), .int .i64 pe, .bool false, .int .i64 (tiK st fs)], .bool true]) ∧ Below w.heap.size w w' :=
  mk_impl pe 0 G 0 0 [] Ap 1 cp (oneK st fs) ((st + 1) % 16) (10 * (b : Int)) _ (tiK st fs) false true true true w rfl (oneK_tim h0 h15) (by unfold gtB; simp) ⟨fun _ => ⟨⟨⟨p1, p8⟩, by omega, Int.le_refl _⟩, fun i hi => absurd hi (Nat.not_lt_zero _)⟩, fun _ => rfl⟩ ⟨fun _ => oneK_valid h0 h15 hf h2, fun _ => rfl⟩ ⟨fun _ => beac_ok h0 h15 p1 p8 hb, fun _ => rfl⟩ (rdSS_none _ _) hp (by omega)
theorem hear_one (L bc st pe : Int) (b : Nat) (aw : Bool) (fs : List (List Int)) (w : World) (l1 : 1 ≤ L) (l8 : L ≤ 8) (b0 : 0 ≤ bc) (b1 : bc ≤ L - 1) (h0 : 0 ≤ st) (h15 : st ≤ 15) (p1 : 1 ≤ pe) (p8 : pe ≤ 8) (hb : b ≤ 100) :
    Calls Try.prog 55 #[sv L aw bc 0 false, .agg #[.int .i64 ((st + 1) % 16), .int .i64 (10 * (b : Int)), .int .i64 (Bcn.dcount (10 * (b : Int)) pe), .int .i64 pe, .bool false, .int .i64 (tiK st fs)], .int .i64 st] w fun x w' => ∃ po : Bool, (po = true ↔ aw = true ∧ fs ≠ []) ∧ x = .returned (.tuple #[sv L po bc (if po then 1 else 0) false, .bool po]) ∧ Below w.heap.size w w' := by
  have hv := beac_ok (fs := fs) h0 h15 p1 p8 hb
  cases aw
  · refine (hb_asleep L bc st _ _ _ _ _ w l1 l8 b0 b1 h0 h15 hv).mono ?_
    rintro x w' h
    exact ⟨false, by simp, h⟩
  · by_cases hf : fs = []
    · subst hf
      refine (hb_none L bc st _ _ _ _ _ w l1 l8 b0 b1 h0 h15 hv (tiK_off h0 h15)).mono ?_
      rintro x w' h
      exact ⟨false, by simp, h⟩
    · refine (hb_poll L bc st _ _ _ _ _ w l1 l8 b0 b1 h0 h15 hv (tiK_on h0 h15 hf)).mono ?_
      rintro x w' h
      exact ⟨true, by simp [hf], h⟩
/-- what the beacons keep -/
def NmRel (w : World) (L st pe : Int) (L0 b1 b2 b3 : Nat) (G : Option Addr) (v9 v10 v11 : Value) (wr : World) : Prop :=
  ∃ (b : Nat) (fs xs ys : List (List Int)) (A9 : Option Addr) (c9 : Nat) (A10 : Option Addr) (c10 : Nat) (Ap : Option Addr) (cp : Nat),
    1 ≤ b ∧ (b : Int) ≤ 4 * L + 1 ∧ v11 = .int .i64 (b : Int) ∧ v9 = .slice A9 xs.length c9 ∧ v10 = .slice A10 ys.length c10 ∧ (xs = ys ++ fs ∧ fs.length ≤ 6 ∧ Twos fs ∧ (((b : Int) - 1) % L = 0 → fs = []) ∧ xs.length < b) ∧
      TwoL wr L0 A9 xs.length c9 xs A10 ys.length c10 ys ∧ PbIn wr (b2 + 1) wr.heap.size Ap 1 cp (oneK st fs) ∧ Bk.Blk wr b1 76 #[.int .i64 L, .bool false, .int .i64 (((b : Int) - 1) % L), .int .i64 0, .bool false] ∧ Bk.Blk wr b2 39 #[.slice Ap 1 cp] ∧
      Bk.Blk wr b3 27 #[.int .i64 pe, .slice G 0 0, .int .i64 0] ∧ Below w.heap.size w wr
/-- what the polls of one beacon keep -/
def InRel (w : World) (L st pe bc2 : Int) (L0 b1 b2 b3 : Nat) (G A9 : Option Addr) (c9 : Nat) (xs : List (List Int)) (v10 v16 v17 : Value) (wr : World) : Prop :=
  ∃ (i : Nat) (po : Bool) (pi : Int) (fs ys : List (List Int)) (A10 : Option Addr) (c10 : Nat) (Ap : Option Addr) (cp : Nat),
    i ≤ 6 ∧ v17 = .int .i64 (i : Int) ∧ v16 = .bool po ∧ v10 = .slice A10 ys.length c10 ∧ (xs = ys ++ fs ∧ fs.length ≤ 6 ∧ Twos fs ∧ (po = true → 0 < fs.length ∧ i + fs.length ≤ 6 ∧ pi = 1) ∧ (po = false → (bc2 = 0 → fs = []) ∧ pi = 0)) ∧
      TwoL wr L0 A9 xs.length c9 xs A10 ys.length c10 ys ∧ PbIn wr (b2 + 1) wr.heap.size Ap 1 cp (oneK st fs) ∧ Bk.Blk wr b1 76 #[.int .i64 L, .bool po, .int .i64 bc2, .int .i64 pi, .bool false] ∧ Bk.Blk wr b2 39 #[.slice Ap 1 cp] ∧
      Bk.Blk wr b3 27 #[.int .i64 pe, .slice G 0 0, .int .i64 0] ∧ Below w.heap.size w wr
theorem poll_start {fs : List (List Int)} {bc2 : Int} {aw po : Bool} {pi : Int} (hpo : po = true ↔ aw = true ∧ fs ≠ []) (haw : bc2 = 0 → aw = true) (hpi : (if po then (1 : Int) else 0) = pi) (h6 : fs.length ≤ 6) :
    (po = true → 0 < fs.length ∧ 0 + fs.length ≤ 6 ∧ pi = 1) ∧ (po = false → (bc2 = 0 → fs = []) ∧ pi = 0) := by
  cases po
  · refine ⟨(fun e => by cases e), fun _ => ⟨fun h => ?_, by rw [← hpi]; rfl⟩⟩
    by_cases hf : fs = []
    · exact hf
    · have h2 := hpo.2 ⟨haw h, hf⟩
      cases h2
  · refine ⟨fun _ => ⟨?_, by omega, by rw [← hpi]; rfl⟩, (fun e => by cases e)⟩
    have h2 := (hpo.1 rfl).2
    cases fs with
    | nil => exact absurd rfl h2
    | cons x l => simp
theorem poll_step {xs ys fs : List (List Int)} {i : Nat} {bc2 : Int} {mo : Bool} {pi2 : Int} (h1 : xs = ys ++ fs) (h2 : fs.length ≤ 6) (h3 : Twos fs) (h4 : 0 < fs.length) (h5 : i + fs.length ≤ 6) (hmo : decide (1 < fs.length) = mo) (hpi : (if mo then (1 : Int) else 0) = pi2) :
    xs = (ys ++ [fs.getD 0 []]) ++ fs.tail ∧ fs.tail.length ≤ 6 ∧ Twos fs.tail ∧ (mo = true → 0 < fs.tail.length ∧ i + 1 + fs.tail.length ≤ 6 ∧ pi2 = 1) ∧ (mo = false → (bc2 = 0 → fs.tail = []) ∧ pi2 = 0) := by
  cases fs with
  | nil => simp at h4
  | cons x l =>
    simp only [List.length_cons] at h2 h5 hmo
    refine ⟨by rw [h1]; simp [List.getD], by simp; omega, fun y hy => h3 y (List.mem_cons_of_mem _ hy), fun e => ?_, fun e => ?_⟩
    · subst e
      have := of_decide_eq_true hmo
      exact ⟨by simp; omega, by simp; omega, by rw [← hpi]; rfl⟩
    · subst e
      have := of_decide_eq_false hmo
      refine ⟨fun _ => ?_, by rw [← hpi]; rfl⟩
      show l = []
      exact List.eq_nil_of_length_eq_zero (by omega)
set_option maxRecDepth 100000 in
set_option maxHeartbeats 16000000 in
theorem nm_law (A : Option Addr) (n c : Nat) (zs : List Int) (w : World) (hrow : RowIn .u8 w A n c zs) :
    Calls Try.prog 8 #[.slice A n c] w fun e w' => e = .returned (.bool true) ∧ Below w.heap.size w w' := by
  obtain ⟨ip, hip, hp0, hp1, hp2⟩ := info_parts ssInfo
  have HR := Lib.hid hrow.1
  have HB := Lib.hid (bytes_of_row hrow)
  have B : Below w.heap.size w w := Below.refl _ _
  clear hrow
  by_cases hbig : 1048576 < (n : Int)
  · go_enter Try.func8, Try.ntmps8
    go_wp2_with (first | (go_at_call 19; refine (big_any _ _ _ _).mono ?_; rintro e w' ⟨rfl, rfl⟩))
    go_ret
    exact ⟨rfl, B⟩
  · have hn : n ≤ 2097152 := by omega
    go_enter Try.func8, Try.ntmps8
    go_wp2_with (first | (go_at_call 19; refine (big_any _ _ _ _).mono ?_; rintro e w' ⟨rfl, rfl⟩))
    refine (at_any A n c zs 0 _ HR.out HB.out hn (by omega) (by omega)).mono ?_
    rintro e w' ⟨x, ⟨x0, x1⟩, rfl, rfl⟩
    have s0 := Int.emod_nonneg x (show (16 : Int) ≠ 0 by omega)
    have s1 := Int.emod_lt_of_pos x (show (0 : Int) < 16 by omega)
    go_wp2_with fail
    generalize x % 16 = st at *
    have s15 : st ≤ 15 := by omega
    refine (at_any A n c zs 1 _ HR.out HB.out hn (by omega) (by omega)).mono ?_
    rintro e w' ⟨y, ⟨y0, y1⟩, rfl, rfl⟩
    have t0 := Int.emod_nonneg y (show (8 : Int) ≠ 0 by omega)
    have t1 := Int.emod_lt_of_pos y (show (0 : Int) < 8 by omega)
    have l1 : 1 ≤ 1 + y % 8 := by omega
    have l8 : 1 + y % 8 ≤ 8 := by omega
    go_wp2_with fail
    generalize 1 + y % 8 = L at *
    clear t0 t1 y0 y1 x0 x1
    refine (new_in L _ l1 l8).mono ?_
    rintro x w1 ⟨rfl, hb0⟩
    replace B : Below w.heap.size w w1 := Below.trans (by go_grown) (hb0.mono (by first | omega | (simp [Bk.size_set]; done) | (simp [Bk.size_set]; omega)))
    have z1 := hb0.size
    (try simp only [World.size_alloc, Bk.size_set, World.size_drew, World.drewN] at z1)
    clear hb0
    go_wp2_with fail
    generalize hW : World.alloc _ _ = w2
    have bs : Bk.Blk w2 (w1.heap.size) 76 #[.int .i64 L, .bool false, .int .i64 0, .int .i64 0, .bool false] := (by rw [← hW]; apply Bk.Blk.to; (focus ((repeat (first | with_reducible assumption | (with_reducible apply Bk.Blk.newAt; focus (first | (simp [Bk.size_set]; done) | (simp [Bk.size_set]; omega))) | with_reducible apply Bk.Blk.drewN | with_reducible apply Bk.Blk.drew | with_reducible apply Bk.Blk.set_ | (with_reducible apply Bk.Blk.far; focus (dsimp only; first | omega | (simp; omega) | (simp; done))) | with_reducible apply Bk.Blk.alloc)))); rfl)
    replace B : Below w.heap.size w w2 := (by rw [← hW]; go_grown)
    have z2 : w2.heap.size = _ := congrArg (fun W : World => W.heap.size) hW.symm
    (try simp only [World.size_alloc, Bk.size_set, World.size_drew, World.drewN] at z2)
    clear hW
    refine (addI_ok none 0 0 [] st _ (validP_zero _) s0 s15 (.inl ⟨rfl, fun j h => absurd h (Nat.not_lt_zero _)⟩) ⟨rfl, Nat.le_refl _, by unfold maxLen; omega, fun h => absurd h (Nat.lt_irrefl _)⟩ (by omega) (fun i => ⟨by show ([] : List (List Int)).length ≤ _; simp, fun j => by show (([] : List (List Int)).getD j []).length ≤ _; simp⟩)).mono ?_
    rintro x w3 ⟨a, ha, A1, c1, rfl, hown, hb0⟩
    obtain rfl : a = 0 := by have := ha.1; omega
    have RP := Lib.hid (show RdPB w3 A1 1 c1 [⟨st, false, [], 0⟩] from hown.rd)
    clear ha hown
    replace bs : Bk.Blk w3 (w1.heap.size) 76 #[.int .i64 L, .bool false, .int .i64 0, .int .i64 0, .bool false] := Bk.Blk.under hb0 (by (repeat (first | with_reducible assumption | (with_reducible apply Bk.Blk.newAt; focus (first | (simp [Bk.size_set]; done) | (simp [Bk.size_set]; omega))) | with_reducible apply Bk.Blk.drewN | with_reducible apply Bk.Blk.drew | with_reducible apply Bk.Blk.set_ | (with_reducible apply Bk.Blk.far; focus (dsimp only; first | omega | (simp; omega) | (simp; done))) | with_reducible apply Bk.Blk.alloc)))
    replace B : Below w.heap.size w w3 := Below.trans (by go_grown) (hb0.mono (by first | omega | (simp [Bk.size_set]; done) | (simp [Bk.size_set]; omega)))
    have z3 := hb0.size
    (try simp only [World.size_alloc, Bk.size_set, World.size_drew, World.drewN] at z3)
    clear hb0
    go_wp2_with fail
    generalize hW : World.alloc _ _ = w4
    replace RP := Lib.hid (hW ▸ RP.out.alloc _)
    have bp : Bk.Blk w4 (w3.heap.size) 39 #[.slice A1 1 c1] := (by rw [← hW]; apply Bk.Blk.to; (focus ((repeat (first | with_reducible assumption | (with_reducible apply Bk.Blk.newAt; focus (first | (simp [Bk.size_set]; done) | (simp [Bk.size_set]; omega))) | with_reducible apply Bk.Blk.drewN | with_reducible apply Bk.Blk.drew | with_reducible apply Bk.Blk.set_ | (with_reducible apply Bk.Blk.far; focus (dsimp only; first | omega | (simp; omega) | (simp; done))) | with_reducible apply Bk.Blk.alloc)))); rfl)
    replace bs : Bk.Blk w4 (w1.heap.size) 76 #[.int .i64 L, .bool false, .int .i64 0, .int .i64 0, .bool false] := (by rw [← hW]; (repeat (first | with_reducible assumption | (with_reducible apply Bk.Blk.newAt; focus (first | (simp [Bk.size_set]; done) | (simp [Bk.size_set]; omega))) | with_reducible apply Bk.Blk.drewN | with_reducible apply Bk.Blk.drew | with_reducible apply Bk.Blk.set_ | (with_reducible apply Bk.Blk.far; focus (dsimp only; first | omega | (simp; omega) | (simp; done))) | with_reducible apply Bk.Blk.alloc)))
    replace B : Below w.heap.size w w4 := (by rw [← hW]; go_grown)
    have z4 : w4.heap.size = _ := congrArg (fun W : World => W.heap.size) hW.symm
    (try simp only [World.size_alloc, Bk.size_set, World.size_drew, World.drewN] at z4)
    clear hW
    refine (setA_true A1 1 c1 [⟨st, false, [], 0⟩] st 0 _ (.inr ⟨0, by omega, rfl, rfl, fun l h => absurd h (Nat.not_lt_zero _)⟩) (by omega) RP.out (by omega) (fun i => by cases i <;> exact ⟨by show ([] : List (List Int)).length ≤ _; simp, fun j => by show (([] : List (List Int)).getD j []).length ≤ _; simp⟩)).mono ?_
    rintro x w5 ⟨A2, c2, F2, m2, d2, rfl, hp, _, hb0⟩
    have HPI := Lib.hid (show PbIn w5 w4.heap.size w5.heap.size A2 1 c2 (oneK st []) from hp)
    clear hp RP
    replace bs : Bk.Blk w5 (w1.heap.size) 76 #[.int .i64 L, .bool false, .int .i64 0, .int .i64 0, .bool false] := Bk.Blk.under hb0 (by (repeat (first | with_reducible assumption | (with_reducible apply Bk.Blk.newAt; focus (first | (simp [Bk.size_set]; done) | (simp [Bk.size_set]; omega))) | with_reducible apply Bk.Blk.drewN | with_reducible apply Bk.Blk.drew | with_reducible apply Bk.Blk.set_ | (with_reducible apply Bk.Blk.far; focus (dsimp only; first | omega | (simp; omega) | (simp; done))) | with_reducible apply Bk.Blk.alloc)))
    replace bp : Bk.Blk w5 (w3.heap.size) 39 #[.slice A1 1 c1] := Bk.Blk.under hb0 (by (repeat (first | with_reducible assumption | (with_reducible apply Bk.Blk.newAt; focus (first | (simp [Bk.size_set]; done) | (simp [Bk.size_set]; omega))) | with_reducible apply Bk.Blk.drewN | with_reducible apply Bk.Blk.drew | with_reducible apply Bk.Blk.set_ | (with_reducible apply Bk.Blk.far; focus (dsimp only; first | omega | (simp; omega) | (simp; done))) | with_reducible apply Bk.Blk.alloc)))
    replace B : Below w.heap.size w w5 := Below.trans (by go_grown) (hb0.mono (by first | omega | (simp [Bk.size_set]; done) | (simp [Bk.size_set]; omega)))
    have z5 := hb0.size
    (try simp only [World.size_alloc, Bk.size_set, World.size_drew, World.drewN] at z5)
    clear hb0
    have l_bp : w3.heap.size < w5.heap.size := Bk.Blk.lt bp
    have c_bp0 : w5.cell? ⟨w3.heap.size, 0, none⟩ = some (.slice A1 1 c1) := Bk.Blk.cell bp 0
    have f_bp0 : w5.frozen? ⟨w3.heap.size, 0, none⟩ = false := Bk.Blk.fro bp 0
    go_wp2_with fail
    clear l_bp c_bp0 f_bp0
    generalize hW : World.setCell _ _ _ = w6
    have RP := Lib.hid ((HPI.out.keep (w' := w6) fun q q1 q2 => by rw [← hW]; exact Below.heap_setCell _ _ _ q (by simp; omega)).wider (show w3.heap.size + 1 ≤ _ by omega) (show _ ≤ w6.heap.size by rw [← hW, Bk.size_set]; exact Nat.le_refl _))
    replace bp : Bk.Blk w6 (w3.heap.size) 39 #[.slice A2 1 c2] := (by rw [← hW]; apply Bk.Blk.to; (focus ((repeat (first | with_reducible assumption | (with_reducible apply Bk.Blk.newAt; focus (first | (simp [Bk.size_set]; done) | (simp [Bk.size_set]; omega))) | with_reducible apply Bk.Blk.drewN | with_reducible apply Bk.Blk.drew | with_reducible apply Bk.Blk.set_ | (with_reducible apply Bk.Blk.far; focus (dsimp only; first | omega | (simp; omega) | (simp; done))) | with_reducible apply Bk.Blk.alloc)))); rfl)
    replace bs : Bk.Blk w6 (w1.heap.size) 76 #[.int .i64 L, .bool false, .int .i64 0, .int .i64 0, .bool false] := (by rw [← hW]; (repeat (first | with_reducible assumption | (with_reducible apply Bk.Blk.newAt; focus (first | (simp [Bk.size_set]; done) | (simp [Bk.size_set]; omega))) | with_reducible apply Bk.Blk.drewN | with_reducible apply Bk.Blk.drew | with_reducible apply Bk.Blk.set_ | (with_reducible apply Bk.Blk.far; focus (dsimp only; first | omega | (simp; omega) | (simp; done))) | with_reducible apply Bk.Blk.alloc)))
    replace B : Below w.heap.size w w6 := (by rw [← hW]; go_grown)
    have z6 : w6.heap.size = _ := congrArg (fun W : World => W.heap.size) hW.symm
    (try simp only [World.size_alloc, Bk.size_set, World.size_drew, World.drewN] at z6)
    clear hW
    clear HPI
    refine (at_any A n c zs 2 _ (HR.out.below B) HB.out hn (by omega) (by omega)).mono ?_
    rintro e w' ⟨y, ⟨y0, y1⟩, rfl, rfl⟩
    have t0 := Int.emod_nonneg y (show (3 : Int) ≠ 0 by omega)
    have t1 := Int.emod_lt_of_pos y (show (0 : Int) < 3 by omega)
    have p1 : 1 ≤ 1 + y % 3 := by omega
    have p8 : 1 + y % 3 ≤ 8 := by omega
    go_wp2_with fail
    generalize 1 + y % 3 = pe at *
    clear t0 t1 y0 y1
    refine (newG_in pe _ p1 p8).mono ?_
    rintro x w7 ⟨rfl, hb0⟩
    replace RP := Lib.hid (RP.out.below2 hb0)
    replace bs : Bk.Blk w7 (w1.heap.size) 76 #[.int .i64 L, .bool false, .int .i64 0, .int .i64 0, .bool false] := Bk.Blk.under hb0 (by (repeat (first | with_reducible assumption | (with_reducible apply Bk.Blk.newAt; focus (first | (simp [Bk.size_set]; done) | (simp [Bk.size_set]; omega))) | with_reducible apply Bk.Blk.drewN | with_reducible apply Bk.Blk.drew | with_reducible apply Bk.Blk.set_ | (with_reducible apply Bk.Blk.far; focus (dsimp only; first | omega | (simp; omega) | (simp; done))) | with_reducible apply Bk.Blk.alloc)))
    replace bp : Bk.Blk w7 (w3.heap.size) 39 #[.slice A2 1 c2] := Bk.Blk.under hb0 (by (repeat (first | with_reducible assumption | (with_reducible apply Bk.Blk.newAt; focus (first | (simp [Bk.size_set]; done) | (simp [Bk.size_set]; omega))) | with_reducible apply Bk.Blk.drewN | with_reducible apply Bk.Blk.drew | with_reducible apply Bk.Blk.set_ | (with_reducible apply Bk.Blk.far; focus (dsimp only; first | omega | (simp; omega) | (simp; done))) | with_reducible apply Bk.Blk.alloc)))
    replace B : Below w.heap.size w w7 := Below.trans (by go_grown) (hb0.mono (by first | omega | (simp [Bk.size_set]; done) | (simp [Bk.size_set]; omega)))
    have z7 := hb0.size
    (try simp only [World.size_alloc, Bk.size_set, World.size_drew, World.drewN] at z7)
    clear hb0
    generalize hG : (some ⟨w6.heap.size + 1, 0, none⟩ : Option Addr) = G
    clear hG
    go_wp2_with fail
    generalize hW8 : World.alloc w7 _ = w8
    generalize hW9 : World.alloc w8 _ = w9
    generalize hW : World.alloc w9 _ = w10
    have HTL := twoL_start hW9 hW
    have hb8 : Below w7.heap.size w7 w10 := by rw [← hW, ← hW9, ← hW8]; go_grown
    have z8 : w8.heap.size = w7.heap.size + 1 := by rw [← hW8]; simp
    have z9 : w9.heap.size = w7.heap.size + 1 + 1 := by rw [← hW9]; simp; omega
    have bg : Bk.Blk w10 w7.heap.size 27 #[.int .i64 pe, .slice G 0 0, .int .i64 0] := (blk_toM (blk_toM (blk_newM hW8) hW9) hW)
    replace RP := Lib.hid (RP.out.below2 hb8)
    replace bs : Bk.Blk w10 w1.heap.size 76 #[.int .i64 L, .bool false, .int .i64 0, .int .i64 0, .bool false] := bs.under hb8
    replace bp : Bk.Blk w10 w3.heap.size 39 #[.slice A2 1 c2] := bp.under hb8
    replace B : Below w.heap.size w w10 := B.trans (hb8.mono (by omega))
    rw [z8, z9] at HTL
    obtain ⟨L0, hL0⟩ : ∃ x, x = w7.heap.size + 1 := ⟨_, rfl⟩
    obtain ⟨q1, q2, q3⟩ : w1.heap.size < L0 ∧ w3.heap.size < L0 ∧ w7.heap.size < L0 := by omega
    obtain ⟨r1, r2, r3⟩ : w.heap.size ≤ w1.heap.size ∧ w1.heap.size < w3.heap.size ∧ w3.heap.size < w7.heap.size := by omega
    obtain ⟨g1, e1⟩ : ∃ g : Nat, g = w1.heap.size := ⟨_, rfl⟩
    obtain ⟨g2, e2⟩ : ∃ g : Nat, g = w3.heap.size := ⟨_, rfl⟩
    obtain ⟨g3, e3⟩ : ∃ g : Nat, g = w7.heap.size := ⟨_, rfl⟩
    rw [← hL0] at HTL
    rw [← e1] at bs q1 r1 r2
    rw [← e2] at bp q2 r2 r3
    replace RP := Lib.hid (show PbIn w10 (g2 + 1) w10.heap.size A2 1 c2 (oneK st []) from by rw [e2]; exact RP.out)
    rw [← e3] at bg q3 r3
    replace HTL := Lib.hid HTL
    clear hb8 hW8 hW9 hW z8 z9
    try rw [← e1, ← e2, ← e3]
    go_loopw [9, 10, 11] (fun v9 v10 v11 wr => NmRel w L st pe L0 g1 g2 g3 G v9 v10 v11 wr) (fun _ _ v11 _ => (4 * L + 1 - intOf v11).toNat)
    case atStart => exact ⟨1, [], [], [], _, _, _, _, A2, c2, Nat.le_refl _, by omega, rfl, by rw [hL0, e3]; rfl, by rw [hL0, e3]; rfl, ⟨rfl, by simp, fun x hx => by simp at hx, fun _ => rfl, by simp⟩, HTL.out, RP.out, by simpa using bs, bp, bg, B⟩
    case round =>
      obtain ⟨w20, rfl⟩ : ∃ wo : World, wo = wr := ⟨_, rfl⟩
      clear HTL RP bs bp bg B z1 z2 z3 z4 z5 z6 z7 hL0 e1 e2 e3
      obtain ⟨b, fs, xs, ys, A9, c9, A10, c10, Ap, cp, hb1, hb4, rfl, rfl, rfl, hfs, htl, hrp, bs, bp, bg, B⟩ := hrel
      have z20 := htl.1
      have HTL := Lib.hid htl
      have RP := Lib.hid hrp
      have HFS := Lib.hid hfs
      have hfl : (fs.length : Int) ≤ 6 := by have := hfs.2.1; omega
      clear htl hrp hfs
      by_cases hle : (b : Int) ≤ 4 * L
      · go_upto_region 14 with fail
        go_cut [74] (fun v wx => ∃ k : Bool, v = .bool k ∧ (k = true → fs.length < 6) ∧ Below w20.heap.size w20 wx)
        case first =>
          have hb20 : Below w20.heap.size w20 w20 := Below.refl _ _
          by_cases h2 : (b : Int) ≤ 2 * L
          · go_wp2_with fail
            refine (at_any A n c zs (b : Int) _ (HR.out.below B) HB.out hn (by omega) (by omega)).mono ?_
            rintro e w' ⟨y2, ⟨y0, y1⟩, rfl, rfl⟩
            by_cases he : y2 % 2 = 0
            · skip
              have l_bp : g2 < w20.heap.size := Bk.Blk.lt bp
              have c_bp0 : w20.cell? ⟨g2, 0, none⟩ = some (.slice Ap 1 cp) := Bk.Blk.cell bp 0
              have f_bp0 : w20.frozen? ⟨g2, 0, none⟩ = false := Bk.Blk.fro bp 0
              go_wp2_with fail
              clear l_bp c_bp0 f_bp0
              refine (kept_impl Ap 1 cp (oneK st fs) st _ RP.out.rd).mono ?_
              rintro e w21 ⟨i, hi, rfl, hb0⟩
              obtain rfl := find_one (oneK_find st fs) hi
              have hk : (if (0 : Int) < 0 then (0 : Int) else ((nthK (oneK st fs) (0 : Int).toNat).fs.length : Int)) = (fs.length : Int) := by rw [if_neg (by omega)]; rfl
              simp only [hk]
              have HB0 := Lib.hid hb0
              clear hi hk hb0
              by_cases h6 : (fs.length : Int) < 6
              · go_wp2_with fail
                go_meet
                exact ⟨true, rfl, fun _ => by omega, HB0.out⟩
              · go_wp2_with fail
                go_meet
                exact ⟨false, rfl, (fun e => by cases e), HB0.out⟩
            · have he2 : (y2 % 2 == 0) = false := by simpa using he
              go_wp2_with fail
              go_meet
              exact ⟨false, rfl, (fun e => by cases e), hb20⟩
          · go_wp2_with fail
            go_meet
            exact ⟨false, rfl, (fun e => by cases e), hb20⟩
        case rest =>
          obtain ⟨kp, rfl, hkp, hb0⟩ := hcut
          obtain ⟨w21, hw21⟩ : ∃ W, W = wc := ⟨_, rfl⟩
          subst hw21
          replace HTL := Lib.hid (HTL.out.below hb0)
          replace RP := Lib.hid (RP.out.below2 hb0)
          replace bs : Bk.Blk w21 (g1) 76 #[.int .i64 L, .bool false, .int .i64 (((b : Int) - 1) % L), .int .i64 0, .bool false] := Bk.Blk.under hb0 (by (repeat (first | with_reducible assumption | (with_reducible apply Bk.Blk.newAt; focus (first | (simp [Bk.size_set]; done) | (simp [Bk.size_set]; omega))) | with_reducible apply Bk.Blk.drewN | with_reducible apply Bk.Blk.drew | with_reducible apply Bk.Blk.set_ | (with_reducible apply Bk.Blk.far; focus (dsimp only; first | omega | (simp; omega) | (simp; done))) | with_reducible apply Bk.Blk.alloc)))
          replace bp : Bk.Blk w21 (g2) 39 #[.slice Ap 1 cp] := Bk.Blk.under hb0 (by (repeat (first | with_reducible assumption | (with_reducible apply Bk.Blk.newAt; focus (first | (simp [Bk.size_set]; done) | (simp [Bk.size_set]; omega))) | with_reducible apply Bk.Blk.drewN | with_reducible apply Bk.Blk.drew | with_reducible apply Bk.Blk.set_ | (with_reducible apply Bk.Blk.far; focus (dsimp only; first | omega | (simp; omega) | (simp; done))) | with_reducible apply Bk.Blk.alloc)))
          replace bg : Bk.Blk w21 (g3) 27 #[.int .i64 pe, .slice G 0 0, .int .i64 0] := Bk.Blk.under hb0 (by (repeat (first | with_reducible assumption | (with_reducible apply Bk.Blk.newAt; focus (first | (simp [Bk.size_set]; done) | (simp [Bk.size_set]; omega))) | with_reducible apply Bk.Blk.drewN | with_reducible apply Bk.Blk.drew | with_reducible apply Bk.Blk.set_ | (with_reducible apply Bk.Blk.far; focus (dsimp only; first | omega | (simp; omega) | (simp; done))) | with_reducible apply Bk.Blk.alloc)))
          replace B : Below w.heap.size w w21 := Below.trans (by go_grown) (hb0.mono (by first | omega | (simp [Bk.size_set]; done) | (simp [Bk.size_set]; omega)))
          have z21 := hb0.size
          (try simp only [World.size_alloc, Bk.size_set, World.size_drew, World.drewN] at z21)
          clear hb0
          go_upto_if 74 with fail
          go_cut [9] (fun v9 wx => ∃ (fs xs : List (List Int)) (A9 : Option Addr) (c9 : Nat) (Ap : Option Addr) (cp : Nat), v9 = .slice A9 xs.length c9 ∧ (xs = ys ++ fs ∧ fs.length ≤ 6 ∧ Twos fs ∧ xs.length ≤ b) ∧ TwoL wx L0 A9 xs.length c9 xs A10 ys.length c10 ys ∧ PbIn wx (g2 + 1) wx.heap.size Ap 1 cp (oneK st fs) ∧ Bk.Blk wx g1 76 #[.int .i64 L, .bool false, .int .i64 (((b : Int) - 1) % L), .int .i64 0, .bool false] ∧ Bk.Blk wx g2 39 #[.slice Ap 1 cp] ∧ Bk.Blk wx g3 27 #[.int .i64 pe, .slice G 0 0, .int .i64 0] ∧ Below w.heap.size w wx)
          case first =>
            cases kp
            · go_wp2_with fail
              go_meet
              exact ⟨fs, xs, A9, c9, Ap, cp, rfl, ⟨HFS.out.1, HFS.out.2.1, HFS.out.2.2.1, Nat.le_of_lt HFS.out.2.2.2.2⟩, HTL.out, RP.out, bs, bp, bg, B⟩
            · have h6 := hkp rfl
              have b64 : (b : Int) ≤ 32 := by omega
              have e8 : IntKind.wrap .u8 (b : Int) = (b : Int) := by rw [show IntKind.wrap .u8 (b : Int) = (b : Int) % 256 from rfl]; omega
              have l_bp : g2 < w21.heap.size := Bk.Blk.lt bp
              have c_bp0 : w21.cell? ⟨g2, 0, none⟩ = some (.slice Ap 1 cp) := Bk.Blk.cell bp 0
              have f_bp0 : w21.frozen? ⟨g2, 0, none⟩ = false := Bk.Blk.fro bp 0
              go_wp2_with fail
              clear l_bp c_bp0 f_bp0
              generalize hW : World.alloc _ _ = w22
              have HBD := Lib.hid (show Rd w22 1 (some ⟨w21.heap.size, 0, none⟩) 2 2 (([(b : Int), 1] : List Int).map (Value.int .u8)) from hW ▸ Rd.lit w21 [.int .u8 (b : Int), .int .u8 1] _ 2 rfl (by unfold maxLen; omega))
              have hb22 : Below w21.heap.size w21 w22 := by rw [← hW]; go_grown
              have HTL2 := Lib.hid (HTL.out.below hb22)
              replace RP := Lib.hid (RP.out.below2 hb22)
              replace bs : Bk.Blk w22 (g1) 76 #[.int .i64 L, .bool false, .int .i64 (((b : Int) - 1) % L), .int .i64 0, .bool false] := (by rw [← hW]; (repeat (first | with_reducible assumption | (with_reducible apply Bk.Blk.newAt; focus (first | (simp [Bk.size_set]; done) | (simp [Bk.size_set]; omega))) | with_reducible apply Bk.Blk.drewN | with_reducible apply Bk.Blk.drew | with_reducible apply Bk.Blk.set_ | (with_reducible apply Bk.Blk.far; focus (dsimp only; first | omega | (simp; omega) | (simp; done))) | with_reducible apply Bk.Blk.alloc)))
              replace bp : Bk.Blk w22 (g2) 39 #[.slice Ap 1 cp] := (by rw [← hW]; (repeat (first | with_reducible assumption | (with_reducible apply Bk.Blk.newAt; focus (first | (simp [Bk.size_set]; done) | (simp [Bk.size_set]; omega))) | with_reducible apply Bk.Blk.drewN | with_reducible apply Bk.Blk.drew | with_reducible apply Bk.Blk.set_ | (with_reducible apply Bk.Blk.far; focus (dsimp only; first | omega | (simp; omega) | (simp; done))) | with_reducible apply Bk.Blk.alloc)))
              replace bg : Bk.Blk w22 (g3) 27 #[.int .i64 pe, .slice G 0 0, .int .i64 0] := (by rw [← hW]; (repeat (first | with_reducible assumption | (with_reducible apply Bk.Blk.newAt; focus (first | (simp [Bk.size_set]; done) | (simp [Bk.size_set]; omega))) | with_reducible apply Bk.Blk.drewN | with_reducible apply Bk.Blk.drew | with_reducible apply Bk.Blk.set_ | (with_reducible apply Bk.Blk.far; focus (dsimp only; first | omega | (simp; omega) | (simp; done))) | with_reducible apply Bk.Blk.alloc)))
              replace B : Below w.heap.size w w22 := (by rw [← hW]; go_grown)
              have z22 : w22.heap.size = _ := congrArg (fun W : World => W.heap.size) hW.symm
              (try simp only [World.size_alloc, Bk.size_set, World.size_drew, World.drewN] at z22)
              clear hW
              refine (keepN_keep Ap 1 cp (oneK st fs) st 0 _ 2 2 [(b : Int), 1] _ (oneK_find st fs) (by omega) rfl h6 (by omega) HBD.out RP.out.rd (by omega) (oneK_few (by omega) HFS.out.2.2.1)).mono ?_
              rintro x w23 ⟨A3, c3, rfl, hpi, hb0⟩
              have HPI := Lib.hid (show PbIn w23 w22.heap.size w23.heap.size A3 1 c3 (oneK st (fs ++ [[(b : Int), 1]])) from hpi)
              replace HTL2 := Lib.hid (HTL2.out.below hb0)
              replace HBD := Lib.hid (HBD.out.below hb0)
              clear hpi RP hb22
              replace bs : Bk.Blk w23 (g1) 76 #[.int .i64 L, .bool false, .int .i64 (((b : Int) - 1) % L), .int .i64 0, .bool false] := Bk.Blk.under hb0 (by (repeat (first | with_reducible assumption | (with_reducible apply Bk.Blk.newAt; focus (first | (simp [Bk.size_set]; done) | (simp [Bk.size_set]; omega))) | with_reducible apply Bk.Blk.drewN | with_reducible apply Bk.Blk.drew | with_reducible apply Bk.Blk.set_ | (with_reducible apply Bk.Blk.far; focus (dsimp only; first | omega | (simp; omega) | (simp; done))) | with_reducible apply Bk.Blk.alloc)))
              replace bp : Bk.Blk w23 (g2) 39 #[.slice Ap 1 cp] := Bk.Blk.under hb0 (by (repeat (first | with_reducible assumption | (with_reducible apply Bk.Blk.newAt; focus (first | (simp [Bk.size_set]; done) | (simp [Bk.size_set]; omega))) | with_reducible apply Bk.Blk.drewN | with_reducible apply Bk.Blk.drew | with_reducible apply Bk.Blk.set_ | (with_reducible apply Bk.Blk.far; focus (dsimp only; first | omega | (simp; omega) | (simp; done))) | with_reducible apply Bk.Blk.alloc)))
              replace bg : Bk.Blk w23 (g3) 27 #[.int .i64 pe, .slice G 0 0, .int .i64 0] := Bk.Blk.under hb0 (by (repeat (first | with_reducible assumption | (with_reducible apply Bk.Blk.newAt; focus (first | (simp [Bk.size_set]; done) | (simp [Bk.size_set]; omega))) | with_reducible apply Bk.Blk.drewN | with_reducible apply Bk.Blk.drew | with_reducible apply Bk.Blk.set_ | (with_reducible apply Bk.Blk.far; focus (dsimp only; first | omega | (simp; omega) | (simp; done))) | with_reducible apply Bk.Blk.alloc)))
              replace B : Below w.heap.size w w23 := Below.trans (by go_grown) (hb0.mono (by first | omega | (simp [Bk.size_set]; done) | (simp [Bk.size_set]; omega)))
              have z23 := hb0.size
              (try simp only [World.size_alloc, Bk.size_set, World.size_drew, World.drewN] at z23)
              clear hb0
              have l_bp : g2 < w23.heap.size := Bk.Blk.lt bp
              have c_bp0 : w23.cell? ⟨g2, 0, none⟩ = some (.slice Ap 1 cp) := Bk.Blk.cell bp 0
              have f_bp0 : w23.frozen? ⟨g2, 0, none⟩ = false := Bk.Blk.fro bp 0
              go_wp2_with (at_builtin; refine Bk.stopHere ?_)
              show wpList _ _ _ _ _ _
              clear l_bp c_bp0 f_bp0
              generalize hWs : World.setCell w23 _ _ = w24
              generalize hWa : World.alloc w24 _ = w25
              have zs : w24.heap.size = w23.heap.size := by rw [← hWs]; exact Bk.size_set _ _ _
              have za : w25.heap.size = w24.heap.size + 1 := by rw [← hWa]; simp
              have hb25 : Below w24.heap.size w24 w25 := by rw [← hWa]; go_grown
              have hk24 : ∀ q, q ≠ g2 → w24.heap[q]? = w23.heap[q]? := fun q hq => by rw [← hWs]; exact Below.heap_setCell _ _ _ q (by simpa using hq)
              have hk25 : ∀ q, q ≠ g2 → q < w23.heap.size → w25.heap[q]? = w23.heap[q]? := fun q hq hlt => (hb25.block q (by omega)).trans (hk24 q hq)
              have HTL5 := (HTL2.out.keep (w' := w25) (by omega) fun q h1 h2 => hk25 q (by omega) h2)
              have HPI5 := Lib.hid (HPI.out.keep (w' := w25) fun q h1 h2 => hk25 q (by omega) h2)
              have HBD5 := (show Rd w25 1 (some ⟨w21.heap.size, 0, none⟩) 2 2 (([(b : Int), 1] : List Int).map (Value.int .u8)) from HBD.out.keep fun _ q hA hlt => hk25 q (by simp [blk] at hA; omega) hlt)
              replace bs : Bk.Blk w25 g1 76 #[.int .i64 L, .bool false, .int .i64 (((b : Int) - 1) % L), .int .i64 0, .bool false] := ((by rw [← hWs]; (repeat (first | with_reducible assumption | (with_reducible apply Bk.Blk.newAt; focus (first | (simp [Bk.size_set]; done) | (simp [Bk.size_set]; omega))) | with_reducible apply Bk.Blk.drewN | with_reducible apply Bk.Blk.drew | with_reducible apply Bk.Blk.set_ | (with_reducible apply Bk.Blk.far; focus (dsimp only; first | omega | (simp; omega) | (simp; done))) | with_reducible apply Bk.Blk.alloc)) : Bk.Blk w24 g1 76 #[.int .i64 L, .bool false, .int .i64 (((b : Int) - 1) % L), .int .i64 0, .bool false])).under hb25
              replace bg : Bk.Blk w25 g3 27 #[.int .i64 pe, .slice G 0 0, .int .i64 0] := ((by rw [← hWs]; (repeat (first | with_reducible assumption | (with_reducible apply Bk.Blk.newAt; focus (first | (simp [Bk.size_set]; done) | (simp [Bk.size_set]; omega))) | with_reducible apply Bk.Blk.drewN | with_reducible apply Bk.Blk.drew | with_reducible apply Bk.Blk.set_ | (with_reducible apply Bk.Blk.far; focus (dsimp only; first | omega | (simp; omega) | (simp; done))) | with_reducible apply Bk.Blk.alloc)) : Bk.Blk w24 g3 27 #[.int .i64 pe, .slice G 0 0, .int .i64 0])).under hb25
              replace bp : Bk.Blk w25 g2 39 #[.slice A3 1 c3] := ((by rw [← hWs]; apply Bk.Blk.to; (focus (repeat (first | with_reducible assumption | (with_reducible apply Bk.Blk.newAt; focus (first | (simp [Bk.size_set]; done) | (simp [Bk.size_set]; omega))) | with_reducible apply Bk.Blk.drewN | with_reducible apply Bk.Blk.drew | with_reducible apply Bk.Blk.set_ | (with_reducible apply Bk.Blk.far; focus (dsimp only; first | omega | (simp; omega) | (simp; done))) | with_reducible apply Bk.Blk.alloc))); rfl : Bk.Blk w24 g2 39 #[.slice A3 1 c3])).under hb25
              replace B : Below w.heap.size w w25 := Below.trans (by rw [← hWs]; go_grown) (hb25.mono (by omega))
              have re := rd_oneA hWa
              rw [zs] at re
              obtain ⟨ss, hown, hst⟩ := HTL5.app
              have hxl := HFS.out.2.2.2.2
              refine wpl_app _ rfl _ _ 22 rfl L0 25 ip (.slice none 0 0) 1 24 Try.underlying22 hip hp0 hp1 hp2 rfl (by decide) _ _ _ _ rfl hown _ 1 1 [.slice (some ⟨w21.heap.size, 0, none⟩) 2 2] rfl re (fun u hu => by simp at hu; subst hu; rfl) (by unfold maxLen; omega) (by omega) HTL5.1 ?_
              intro A6 c6 w26 own26 hg26 hat26
              have hfre := fun q (hq : w21.heap.size ≤ q) => HTL.out.fresh hq
              have HTL6 := Lib.hid (hst w26 _ 2 2 [(b : Int), 1] A6 c6 HBD5 (fun q hq => by simp only [blk, Option.map_some, Option.some.injEq] at hq; subst hq; exact ⟨(hfre _ (Nat.le_refl _)).1, by omega, (hfre _ (Nat.le_refl _)).2⟩) own26 hg26 hat26)
              have RP6 := Lib.hid ((HPI5.out.keep (w' := w26) fun q h1 h2 => hg26.block q (by omega) (fun e => (hfre q (by omega)).2.1 e.symm)).wider (show g2 + 1 ≤ _ by omega) (show _ ≤ w26.heap.size by have := hg26.size; omega))
              replace bs : Bk.Blk w26 g1 76 #[.int .i64 L, .bool false, .int .i64 (((b : Int) - 1) % L), .int .i64 0, .bool false] := blk_grownA hg26 (own_ne hown bs (by decide)) bs
              replace bg : Bk.Blk w26 g3 27 #[.int .i64 pe, .slice G 0 0, .int .i64 0] := blk_grownA hg26 (own_ne hown bg (by decide)) bg
              replace bp : Bk.Blk w26 g2 39 #[.slice A3 1 c3] := blk_grownA hg26 (own_ne hown bp (by decide)) bp
              replace B : Below w.heap.size w w26 := Mem.below_app B hg26 (by have := HTL5.1; omega) (fun q hq => by have := own_lo hown q hq; omega)
              have e1 : (xs ++ [[(b : Int), 1]]).length = xs.length + 1 := by simp
              have HF6 := Lib.hid (show xs ++ [[(b : Int), 1]] = ys ++ (fs ++ [[(b : Int), 1]]) ∧ (fs ++ [[(b : Int), 1]]).length ≤ 6 ∧ Twos (fs ++ [[(b : Int), 1]]) ∧ (xs ++ [[(b : Int), 1]]).length ≤ b from ⟨by rw [HFS.out.1, List.append_assoc], by simp; omega, fun x hx => by rcases List.mem_append.1 hx with h | h; exact HFS.out.2.2.1 x h; simp at h; rw [h]; rfl, by rw [e1]; omega⟩)
              clear HTL5 HPI5 HBD5 hst hown own26 hg26 hat26 hfre re hk24 hk25 hWs hWa hb25
              go_wp2_with fail
              go_meet
              exact ⟨fs ++ [[(b : Int), 1]], xs ++ [[(b : Int), 1]], A6, c6, A3, c3, by rw [e1], HF6.out, by rw [e1]; exact HTL6.out, RP6.out, bs, bp, bg, B⟩
          case rest =>
            obtain ⟨w30, hw30⟩ : ∃ W, W = wc := ⟨_, rfl⟩
            subst hw30
            clear HTL RP HFS hfl bs bp bg B z20 z21 hkp
            obtain ⟨fs, xs, A9, c9, Ap, cp, rfl, hfs, htl, hrp, bs, bp, bg, B⟩ := hcut
            have z30 := htl.1
            have HTL := Lib.hid htl
            have RP := Lib.hid hrp
            have HFS := Lib.hid hfs
            clear htl hrp hfs
            obtain ⟨⟨m0, m1⟩, hor⟩ := mod_step (b := (b : Int)) l1 l8 (by omega)
            obtain ⟨aw, bc2, haw, hbc2⟩ : ∃ (aw : Bool) (bc2 : Int), ((((b : Int) - 1) % L + 1 = L ∧ aw = true ∧ bc2 = 0) ∨ (((b : Int) - 1) % L + 1 ≠ L ∧ aw = false ∧ bc2 = ((b : Int) - 1) % L + 1)) ∧ (b : Int) % L = bc2 := by
              rcases hor with ⟨h1, h2⟩ | ⟨h1, h2⟩
              · exact ⟨true, 0, .inl ⟨h1, rfl, rfl⟩, h2⟩
              · exact ⟨false, _, .inr ⟨h1, rfl, rfl⟩, h2⟩
            have HBC := Lib.hid hbc2
            have HAW := Lib.hid (show bc2 = 0 → aw = true from fun h => by rcases haw with ⟨_, h2, _⟩ | ⟨_, _, h3⟩; exact h2; omega)
            obtain ⟨c0, c7⟩ : 0 ≤ bc2 ∧ bc2 ≤ L - 1 := by rcases haw with ⟨_, _, h3⟩ | ⟨h1, _, h3⟩ <;> omega
            clear hbc2 hor
            generalize ((b : Int) - 1) % L = bc at *
            have l_bs : g1 < w30.heap.size := Bk.Blk.lt bs
            have c_bs0 : w30.cell? ⟨g1, 0, none⟩ = some (.int .i64 L) := Bk.Blk.cell bs 0
            have f_bs0 : w30.frozen? ⟨g1, 0, none⟩ = false := Bk.Blk.fro bs 0
            have c_bs1 : w30.cell? ⟨g1, 1, none⟩ = some (.bool false) := Bk.Blk.cell bs 1
            have f_bs1 : w30.frozen? ⟨g1, 1, none⟩ = false := Bk.Blk.fro bs 1
            have c_bs2 : w30.cell? ⟨g1, 2, none⟩ = some (.int .i64 bc) := Bk.Blk.cell bs 2
            have f_bs2 : w30.frozen? ⟨g1, 2, none⟩ = false := Bk.Blk.fro bs 2
            have c_bs3 : w30.cell? ⟨g1, 3, none⟩ = some (.int .i64 0) := Bk.Blk.cell bs 3
            have f_bs3 : w30.frozen? ⟨g1, 3, none⟩ = false := Bk.Blk.fro bs 3
            have c_bs4 : w30.cell? ⟨g1, 4, none⟩ = some (.bool false) := Bk.Blk.cell bs 4
            have f_bs4 : w30.frozen? ⟨g1, 4, none⟩ = false := Bk.Blk.fro bs 4
            go_wp2_with fail
            clear l_bs c_bs0 f_bs0 c_bs1 f_bs1 c_bs2 f_bs2 c_bs3 f_bs3 c_bs4 f_bs4
            refine (before_any L bc _ l1 l8 m0 m1 aw bc2 haw).mono ?_
            rintro x w31 ⟨rfl, hb0⟩
            replace HTL := Lib.hid (HTL.out.below hb0)
            replace RP := Lib.hid (RP.out.below2 hb0)
            replace bs : Bk.Blk w31 (g1) 76 #[.int .i64 L, .bool false, .int .i64 bc, .int .i64 0, .bool false] := Bk.Blk.under hb0 (by (repeat (first | with_reducible assumption | (with_reducible apply Bk.Blk.newAt; focus (first | (simp [Bk.size_set]; done) | (simp [Bk.size_set]; omega))) | with_reducible apply Bk.Blk.drewN | with_reducible apply Bk.Blk.drew | with_reducible apply Bk.Blk.set_ | (with_reducible apply Bk.Blk.far; focus (dsimp only; first | omega | (simp; omega) | (simp; done))) | with_reducible apply Bk.Blk.alloc)))
            replace bp : Bk.Blk w31 (g2) 39 #[.slice Ap 1 cp] := Bk.Blk.under hb0 (by (repeat (first | with_reducible assumption | (with_reducible apply Bk.Blk.newAt; focus (first | (simp [Bk.size_set]; done) | (simp [Bk.size_set]; omega))) | with_reducible apply Bk.Blk.drewN | with_reducible apply Bk.Blk.drew | with_reducible apply Bk.Blk.set_ | (with_reducible apply Bk.Blk.far; focus (dsimp only; first | omega | (simp; omega) | (simp; done))) | with_reducible apply Bk.Blk.alloc)))
            replace bg : Bk.Blk w31 (g3) 27 #[.int .i64 pe, .slice G 0 0, .int .i64 0] := Bk.Blk.under hb0 (by (repeat (first | with_reducible assumption | (with_reducible apply Bk.Blk.newAt; focus (first | (simp [Bk.size_set]; done) | (simp [Bk.size_set]; omega))) | with_reducible apply Bk.Blk.drewN | with_reducible apply Bk.Blk.drew | with_reducible apply Bk.Blk.set_ | (with_reducible apply Bk.Blk.far; focus (dsimp only; first | omega | (simp; omega) | (simp; done))) | with_reducible apply Bk.Blk.alloc)))
            replace B : Below w.heap.size w w31 := Below.trans (by go_grown) (hb0.mono (by first | omega | (simp [Bk.size_set]; done) | (simp [Bk.size_set]; omega)))
            have z31 := hb0.size
            (try simp only [World.size_alloc, Bk.size_set, World.size_drew, World.drewN] at z31)
            clear hb0
            clear haw
            have l_bs : g1 < w31.heap.size := Bk.Blk.lt bs
            have c_bs0 : w31.cell? ⟨g1, 0, none⟩ = some (.int .i64 L) := Bk.Blk.cell bs 0
            have f_bs0 : w31.frozen? ⟨g1, 0, none⟩ = false := Bk.Blk.fro bs 0
            have c_bs1 : w31.cell? ⟨g1, 1, none⟩ = some (.bool false) := Bk.Blk.cell bs 1
            have f_bs1 : w31.frozen? ⟨g1, 1, none⟩ = false := Bk.Blk.fro bs 1
            have c_bs2 : w31.cell? ⟨g1, 2, none⟩ = some (.int .i64 bc) := Bk.Blk.cell bs 2
            have f_bs2 : w31.frozen? ⟨g1, 2, none⟩ = false := Bk.Blk.fro bs 2
            have c_bs3 : w31.cell? ⟨g1, 3, none⟩ = some (.int .i64 0) := Bk.Blk.cell bs 3
            have f_bs3 : w31.frozen? ⟨g1, 3, none⟩ = false := Bk.Blk.fro bs 3
            have c_bs4 : w31.cell? ⟨g1, 4, none⟩ = some (.bool false) := Bk.Blk.cell bs 4
            have f_bs4 : w31.frozen? ⟨g1, 4, none⟩ = false := Bk.Blk.fro bs 4
            have l_bp : g2 < w31.heap.size := Bk.Blk.lt bp
            have c_bp0 : w31.cell? ⟨g2, 0, none⟩ = some (.slice Ap 1 cp) := Bk.Blk.cell bp 0
            have f_bp0 : w31.frozen? ⟨g2, 0, none⟩ = false := Bk.Blk.fro bp 0
            have l_bg : g3 < w31.heap.size := Bk.Blk.lt bg
            have c_bg0 : w31.cell? ⟨g3, 0, none⟩ = some (.int .i64 pe) := Bk.Blk.cell bg 0
            have f_bg0 : w31.frozen? ⟨g3, 0, none⟩ = false := Bk.Blk.fro bg 0
            have c_bg1 : w31.cell? ⟨g3, 1, none⟩ = some (.slice G 0 0) := Bk.Blk.cell bg 1
            have f_bg1 : w31.frozen? ⟨g3, 1, none⟩ = false := Bk.Blk.fro bg 1
            have c_bg2 : w31.cell? ⟨g3, 2, none⟩ = some (.int .i64 0) := Bk.Blk.cell bg 2
            have f_bg2 : w31.frozen? ⟨g3, 2, none⟩ = false := Bk.Blk.fro bg 2
            go_wp2_with fail
            clear l_bs c_bs0 f_bs0 c_bs1 f_bs1 c_bs2 f_bs2 c_bs3 f_bs3 c_bs4 f_bs4 l_bp c_bp0 f_bp0 l_bg c_bg0 f_bg0 c_bg1 f_bg1 c_bg2 f_bg2
            generalize hW : World.setCell _ _ _ = w32
            have hs32 : w32.heap.size = w31.heap.size := by rw [← hW]; simp only [Bk.size_set]
            have hk32 : ∀ q, q ≠ g1 → w32.heap[q]? = w31.heap[q]? := fun q hq => by rw [← hW]; (repeat refine (Below.heap_setCell _ _ _ q (by simpa using hq)).trans ?_); rfl
            replace HTL := Lib.hid (HTL.out.keep (w' := w32) (by omega) fun q h1 _ => hk32 q (by omega))
            replace RP := Lib.hid (RP.out.next (w' := w32) (by omega) fun q h1 _ => hk32 q (by omega))
            replace bs : Bk.Blk w32 (g1) 76 #[.int .i64 L, .bool aw, .int .i64 bc2, .int .i64 0, .bool false] := (by rw [← hW]; apply Bk.Blk.to; (focus ((repeat (first | with_reducible assumption | (with_reducible apply Bk.Blk.newAt; focus (first | (simp [Bk.size_set]; done) | (simp [Bk.size_set]; omega))) | with_reducible apply Bk.Blk.drewN | with_reducible apply Bk.Blk.drew | with_reducible apply Bk.Blk.set_ | (with_reducible apply Bk.Blk.far; focus (dsimp only; first | omega | (simp; omega) | (simp; done))) | with_reducible apply Bk.Blk.alloc)))); rfl)
            replace bp : Bk.Blk w32 (g2) 39 #[.slice Ap 1 cp] := (by rw [← hW]; (repeat (first | with_reducible assumption | (with_reducible apply Bk.Blk.newAt; focus (first | (simp [Bk.size_set]; done) | (simp [Bk.size_set]; omega))) | with_reducible apply Bk.Blk.drewN | with_reducible apply Bk.Blk.drew | with_reducible apply Bk.Blk.set_ | (with_reducible apply Bk.Blk.far; focus (dsimp only; first | omega | (simp; omega) | (simp; done))) | with_reducible apply Bk.Blk.alloc)))
            replace bg : Bk.Blk w32 (g3) 27 #[.int .i64 pe, .slice G 0 0, .int .i64 0] := (by rw [← hW]; (repeat (first | with_reducible assumption | (with_reducible apply Bk.Blk.newAt; focus (first | (simp [Bk.size_set]; done) | (simp [Bk.size_set]; omega))) | with_reducible apply Bk.Blk.drewN | with_reducible apply Bk.Blk.drew | with_reducible apply Bk.Blk.set_ | (with_reducible apply Bk.Blk.far; focus (dsimp only; first | omega | (simp; omega) | (simp; done))) | with_reducible apply Bk.Blk.alloc)))
            replace B : Below w.heap.size w w32 := (by rw [← hW]; go_grown)
            have z32 : w32.heap.size = _ := congrArg (fun W : World => W.heap.size) hW.symm
            (try simp only [World.size_alloc, Bk.size_set, World.size_drew, World.drewN] at z32)
            clear hW
            clear hs32 hk32
            refine (mk_one pe st b G Ap cp fs _ s0 s15 p1 p8 (by omega) HFS.out.2.1 HFS.out.2.2.1 RP.out.rd).mono ?_
            rintro x w33 ⟨rfl, hb0⟩
            replace HTL := Lib.hid (HTL.out.below hb0)
            replace RP := Lib.hid (RP.out.below2 hb0)
            replace bs : Bk.Blk w33 (g1) 76 #[.int .i64 L, .bool aw, .int .i64 bc2, .int .i64 0, .bool false] := Bk.Blk.under hb0 (by (repeat (first | with_reducible assumption | (with_reducible apply Bk.Blk.newAt; focus (first | (simp [Bk.size_set]; done) | (simp [Bk.size_set]; omega))) | with_reducible apply Bk.Blk.drewN | with_reducible apply Bk.Blk.drew | with_reducible apply Bk.Blk.set_ | (with_reducible apply Bk.Blk.far; focus (dsimp only; first | omega | (simp; omega) | (simp; done))) | with_reducible apply Bk.Blk.alloc)))
            replace bp : Bk.Blk w33 (g2) 39 #[.slice Ap 1 cp] := Bk.Blk.under hb0 (by (repeat (first | with_reducible assumption | (with_reducible apply Bk.Blk.newAt; focus (first | (simp [Bk.size_set]; done) | (simp [Bk.size_set]; omega))) | with_reducible apply Bk.Blk.drewN | with_reducible apply Bk.Blk.drew | with_reducible apply Bk.Blk.set_ | (with_reducible apply Bk.Blk.far; focus (dsimp only; first | omega | (simp; omega) | (simp; done))) | with_reducible apply Bk.Blk.alloc)))
            replace bg : Bk.Blk w33 (g3) 27 #[.int .i64 pe, .slice G 0 0, .int .i64 0] := Bk.Blk.under hb0 (by (repeat (first | with_reducible assumption | (with_reducible apply Bk.Blk.newAt; focus (first | (simp [Bk.size_set]; done) | (simp [Bk.size_set]; omega))) | with_reducible apply Bk.Blk.drewN | with_reducible apply Bk.Blk.drew | with_reducible apply Bk.Blk.set_ | (with_reducible apply Bk.Blk.far; focus (dsimp only; first | omega | (simp; omega) | (simp; done))) | with_reducible apply Bk.Blk.alloc)))
            replace B : Below w.heap.size w w33 := Below.trans (by go_grown) (hb0.mono (by first | omega | (simp [Bk.size_set]; done) | (simp [Bk.size_set]; omega)))
            have z33 := hb0.size
            (try simp only [World.size_alloc, Bk.size_set, World.size_drew, World.drewN] at z33)
            clear hb0
            have l_bs : g1 < w33.heap.size := Bk.Blk.lt bs
            have c_bs0 : w33.cell? ⟨g1, 0, none⟩ = some (.int .i64 L) := Bk.Blk.cell bs 0
            have f_bs0 : w33.frozen? ⟨g1, 0, none⟩ = false := Bk.Blk.fro bs 0
            have c_bs1 : w33.cell? ⟨g1, 1, none⟩ = some (.bool aw) := Bk.Blk.cell bs 1
            have f_bs1 : w33.frozen? ⟨g1, 1, none⟩ = false := Bk.Blk.fro bs 1
            have c_bs2 : w33.cell? ⟨g1, 2, none⟩ = some (.int .i64 bc2) := Bk.Blk.cell bs 2
            have f_bs2 : w33.frozen? ⟨g1, 2, none⟩ = false := Bk.Blk.fro bs 2
            have c_bs3 : w33.cell? ⟨g1, 3, none⟩ = some (.int .i64 0) := Bk.Blk.cell bs 3
            have f_bs3 : w33.frozen? ⟨g1, 3, none⟩ = false := Bk.Blk.fro bs 3
            have c_bs4 : w33.cell? ⟨g1, 4, none⟩ = some (.bool false) := Bk.Blk.cell bs 4
            have f_bs4 : w33.frozen? ⟨g1, 4, none⟩ = false := Bk.Blk.fro bs 4
            have HHR := Lib.hid (fun W => hear_one L bc2 st pe b aw fs W l1 l8 c0 c7 s0 s15 p1 p8 (by omega))
            generalize Bcn.dcount (10 * (b : Int)) pe = dc at *
            generalize tiK st fs = ti at *
            go_wp2_with fail
            clear l_bs c_bs0 f_bs0 c_bs1 f_bs1 c_bs2 f_bs2 c_bs3 f_bs3 c_bs4 f_bs4
            generalize hW : World.alloc _ _ = w34
            have hb34 : Below w33.heap.size w33 w34 := by rw [← hW]; go_grown
            replace HTL := Lib.hid (HTL.out.below hb34)
            replace RP := Lib.hid (RP.out.below2 hb34)
            clear hb34
            have bb : Bk.Blk w34 (w33.heap.size) 43 #[.int .i64 ((st + 1) % 16), .int .i64 (10 * (b : Int)), .int .i64 dc, .int .i64 pe, .bool false, .int .i64 ti] := (by rw [← hW]; apply Bk.Blk.to; (focus ((repeat (first | with_reducible assumption | (with_reducible apply Bk.Blk.newAt; focus (first | (simp [Bk.size_set]; done) | (simp [Bk.size_set]; omega))) | with_reducible apply Bk.Blk.drewN | with_reducible apply Bk.Blk.drew | with_reducible apply Bk.Blk.set_ | (with_reducible apply Bk.Blk.far; focus (dsimp only; first | omega | (simp; omega) | (simp; done))) | with_reducible apply Bk.Blk.alloc)))); rfl)
            replace bs : Bk.Blk w34 (g1) 76 #[.int .i64 L, .bool aw, .int .i64 bc2, .int .i64 0, .bool false] := (by rw [← hW]; (repeat (first | with_reducible assumption | (with_reducible apply Bk.Blk.newAt; focus (first | (simp [Bk.size_set]; done) | (simp [Bk.size_set]; omega))) | with_reducible apply Bk.Blk.drewN | with_reducible apply Bk.Blk.drew | with_reducible apply Bk.Blk.set_ | (with_reducible apply Bk.Blk.far; focus (dsimp only; first | omega | (simp; omega) | (simp; done))) | with_reducible apply Bk.Blk.alloc)))
            replace bp : Bk.Blk w34 (g2) 39 #[.slice Ap 1 cp] := (by rw [← hW]; (repeat (first | with_reducible assumption | (with_reducible apply Bk.Blk.newAt; focus (first | (simp [Bk.size_set]; done) | (simp [Bk.size_set]; omega))) | with_reducible apply Bk.Blk.drewN | with_reducible apply Bk.Blk.drew | with_reducible apply Bk.Blk.set_ | (with_reducible apply Bk.Blk.far; focus (dsimp only; first | omega | (simp; omega) | (simp; done))) | with_reducible apply Bk.Blk.alloc)))
            replace bg : Bk.Blk w34 (g3) 27 #[.int .i64 pe, .slice G 0 0, .int .i64 0] := (by rw [← hW]; (repeat (first | with_reducible assumption | (with_reducible apply Bk.Blk.newAt; focus (first | (simp [Bk.size_set]; done) | (simp [Bk.size_set]; omega))) | with_reducible apply Bk.Blk.drewN | with_reducible apply Bk.Blk.drew | with_reducible apply Bk.Blk.set_ | (with_reducible apply Bk.Blk.far; focus (dsimp only; first | omega | (simp; omega) | (simp; done))) | with_reducible apply Bk.Blk.alloc)))
            replace B : Below w.heap.size w w34 := (by rw [← hW]; go_grown)
            have z34 : w34.heap.size = _ := congrArg (fun W : World => W.heap.size) hW.symm
            (try simp only [World.size_alloc, Bk.size_set, World.size_drew, World.drewN] at z34)
            clear hW
            refine (valid_yes L bc2 0 aw false _ l1 l8 c0 c7 (by omega) (by omega) (by cases aw; exact .inr ⟨rfl, rfl⟩; exact .inl rfl)).mono ?_
            rintro x w35 ⟨rfl, hb0⟩
            replace HTL := Lib.hid (HTL.out.below hb0)
            replace RP := Lib.hid (RP.out.below2 hb0)
            replace bs : Bk.Blk w35 (g1) 76 #[.int .i64 L, .bool aw, .int .i64 bc2, .int .i64 0, .bool false] := Bk.Blk.under hb0 (by (repeat (first | with_reducible assumption | (with_reducible apply Bk.Blk.newAt; focus (first | (simp [Bk.size_set]; done) | (simp [Bk.size_set]; omega))) | with_reducible apply Bk.Blk.drewN | with_reducible apply Bk.Blk.drew | with_reducible apply Bk.Blk.set_ | (with_reducible apply Bk.Blk.far; focus (dsimp only; first | omega | (simp; omega) | (simp; done))) | with_reducible apply Bk.Blk.alloc)))
            replace bp : Bk.Blk w35 (g2) 39 #[.slice Ap 1 cp] := Bk.Blk.under hb0 (by (repeat (first | with_reducible assumption | (with_reducible apply Bk.Blk.newAt; focus (first | (simp [Bk.size_set]; done) | (simp [Bk.size_set]; omega))) | with_reducible apply Bk.Blk.drewN | with_reducible apply Bk.Blk.drew | with_reducible apply Bk.Blk.set_ | (with_reducible apply Bk.Blk.far; focus (dsimp only; first | omega | (simp; omega) | (simp; done))) | with_reducible apply Bk.Blk.alloc)))
            replace bg : Bk.Blk w35 (g3) 27 #[.int .i64 pe, .slice G 0 0, .int .i64 0] := Bk.Blk.under hb0 (by (repeat (first | with_reducible assumption | (with_reducible apply Bk.Blk.newAt; focus (first | (simp [Bk.size_set]; done) | (simp [Bk.size_set]; omega))) | with_reducible apply Bk.Blk.drewN | with_reducible apply Bk.Blk.drew | with_reducible apply Bk.Blk.set_ | (with_reducible apply Bk.Blk.far; focus (dsimp only; first | omega | (simp; omega) | (simp; done))) | with_reducible apply Bk.Blk.alloc)))
            replace bb : Bk.Blk w35 (w33.heap.size) 43 #[.int .i64 ((st + 1) % 16), .int .i64 (10 * (b : Int)), .int .i64 dc, .int .i64 pe, .bool false, .int .i64 ti] := Bk.Blk.under hb0 (by (repeat (first | with_reducible assumption | (with_reducible apply Bk.Blk.newAt; focus (first | (simp [Bk.size_set]; done) | (simp [Bk.size_set]; omega))) | with_reducible apply Bk.Blk.drewN | with_reducible apply Bk.Blk.drew | with_reducible apply Bk.Blk.set_ | (with_reducible apply Bk.Blk.far; focus (dsimp only; first | omega | (simp; omega) | (simp; done))) | with_reducible apply Bk.Blk.alloc)))
            replace B : Below w.heap.size w w35 := Below.trans (by go_grown) (hb0.mono (by first | omega | (simp [Bk.size_set]; done) | (simp [Bk.size_set]; omega)))
            have z35 := hb0.size
            (try simp only [World.size_alloc, Bk.size_set, World.size_drew, World.drewN] at z35)
            clear hb0
            have l_bs : g1 < w35.heap.size := Bk.Blk.lt bs
            have c_bs0 : w35.cell? ⟨g1, 0, none⟩ = some (.int .i64 L) := Bk.Blk.cell bs 0
            have f_bs0 : w35.frozen? ⟨g1, 0, none⟩ = false := Bk.Blk.fro bs 0
            have c_bs1 : w35.cell? ⟨g1, 1, none⟩ = some (.bool aw) := Bk.Blk.cell bs 1
            have f_bs1 : w35.frozen? ⟨g1, 1, none⟩ = false := Bk.Blk.fro bs 1
            have c_bs2 : w35.cell? ⟨g1, 2, none⟩ = some (.int .i64 bc2) := Bk.Blk.cell bs 2
            have f_bs2 : w35.frozen? ⟨g1, 2, none⟩ = false := Bk.Blk.fro bs 2
            have c_bs3 : w35.cell? ⟨g1, 3, none⟩ = some (.int .i64 0) := Bk.Blk.cell bs 3
            have f_bs3 : w35.frozen? ⟨g1, 3, none⟩ = false := Bk.Blk.fro bs 3
            have c_bs4 : w35.cell? ⟨g1, 4, none⟩ = some (.bool false) := Bk.Blk.cell bs 4
            have f_bs4 : w35.frozen? ⟨g1, 4, none⟩ = false := Bk.Blk.fro bs 4
            have l_bb : w33.heap.size < w35.heap.size := Bk.Blk.lt bb
            have c_bb0 : w35.cell? ⟨w33.heap.size, 0, none⟩ = some (.int .i64 ((st + 1) % 16)) := Bk.Blk.cell bb 0
            have f_bb0 : w35.frozen? ⟨w33.heap.size, 0, none⟩ = false := Bk.Blk.fro bb 0
            have c_bb1 : w35.cell? ⟨w33.heap.size, 1, none⟩ = some (.int .i64 (10 * (b : Int))) := Bk.Blk.cell bb 1
            have f_bb1 : w35.frozen? ⟨w33.heap.size, 1, none⟩ = false := Bk.Blk.fro bb 1
            have c_bb2 : w35.cell? ⟨w33.heap.size, 2, none⟩ = some (.int .i64 dc) := Bk.Blk.cell bb 2
            have f_bb2 : w35.frozen? ⟨w33.heap.size, 2, none⟩ = false := Bk.Blk.fro bb 2
            have c_bb3 : w35.cell? ⟨w33.heap.size, 3, none⟩ = some (.int .i64 pe) := Bk.Blk.cell bb 3
            have f_bb3 : w35.frozen? ⟨w33.heap.size, 3, none⟩ = false := Bk.Blk.fro bb 3
            have c_bb4 : w35.cell? ⟨w33.heap.size, 4, none⟩ = some (.bool false) := Bk.Blk.cell bb 4
            have f_bb4 : w35.frozen? ⟨w33.heap.size, 4, none⟩ = false := Bk.Blk.fro bb 4
            have c_bb5 : w35.cell? ⟨w33.heap.size, 5, none⟩ = some (.int .i64 ti) := Bk.Blk.cell bb 5
            have f_bb5 : w35.frozen? ⟨w33.heap.size, 5, none⟩ = false := Bk.Blk.fro bb 5
            go_wp2_with fail
            clear l_bs c_bs0 f_bs0 c_bs1 f_bs1 c_bs2 f_bs2 c_bs3 f_bs3 c_bs4 f_bs4 l_bb c_bb0 f_bb0 c_bb1 f_bb1 c_bb2 f_bb2 c_bb3 f_bb3 c_bb4 f_bb4 c_bb5 f_bb5
            refine (HHR.out _).mono ?_
            rintro x w36 ⟨po, hpo, rfl, hb0⟩
            replace HTL := Lib.hid (HTL.out.below hb0)
            replace RP := Lib.hid (RP.out.below2 hb0)
            have HPO := Lib.hid hpo
            replace bs : Bk.Blk w36 (g1) 76 #[.int .i64 L, .bool aw, .int .i64 bc2, .int .i64 0, .bool false] := Bk.Blk.under hb0 (by (repeat (first | with_reducible assumption | (with_reducible apply Bk.Blk.newAt; focus (first | (simp [Bk.size_set]; done) | (simp [Bk.size_set]; omega))) | with_reducible apply Bk.Blk.drewN | with_reducible apply Bk.Blk.drew | with_reducible apply Bk.Blk.set_ | (with_reducible apply Bk.Blk.far; focus (dsimp only; first | omega | (simp; omega) | (simp; done))) | with_reducible apply Bk.Blk.alloc)))
            replace bp : Bk.Blk w36 (g2) 39 #[.slice Ap 1 cp] := Bk.Blk.under hb0 (by (repeat (first | with_reducible assumption | (with_reducible apply Bk.Blk.newAt; focus (first | (simp [Bk.size_set]; done) | (simp [Bk.size_set]; omega))) | with_reducible apply Bk.Blk.drewN | with_reducible apply Bk.Blk.drew | with_reducible apply Bk.Blk.set_ | (with_reducible apply Bk.Blk.far; focus (dsimp only; first | omega | (simp; omega) | (simp; done))) | with_reducible apply Bk.Blk.alloc)))
            replace bg : Bk.Blk w36 (g3) 27 #[.int .i64 pe, .slice G 0 0, .int .i64 0] := Bk.Blk.under hb0 (by (repeat (first | with_reducible assumption | (with_reducible apply Bk.Blk.newAt; focus (first | (simp [Bk.size_set]; done) | (simp [Bk.size_set]; omega))) | with_reducible apply Bk.Blk.drewN | with_reducible apply Bk.Blk.drew | with_reducible apply Bk.Blk.set_ | (with_reducible apply Bk.Blk.far; focus (dsimp only; first | omega | (simp; omega) | (simp; done))) | with_reducible apply Bk.Blk.alloc)))
            replace B : Below w.heap.size w w36 := Below.trans (by go_grown) (hb0.mono (by first | omega | (simp [Bk.size_set]; done) | (simp [Bk.size_set]; omega)))
            have z36 := hb0.size
            (try simp only [World.size_alloc, Bk.size_set, World.size_drew, World.drewN] at z36)
            clear hb0
            clear hpo HHR bb
            generalize hpi : (if po then (1 : Int) else 0) = pi at *
            have HPI := Lib.hid hpi
            clear hpi
            have l_bs : g1 < w36.heap.size := Bk.Blk.lt bs
            have c_bs0 : w36.cell? ⟨g1, 0, none⟩ = some (.int .i64 L) := Bk.Blk.cell bs 0
            have f_bs0 : w36.frozen? ⟨g1, 0, none⟩ = false := Bk.Blk.fro bs 0
            have c_bs1 : w36.cell? ⟨g1, 1, none⟩ = some (.bool aw) := Bk.Blk.cell bs 1
            have f_bs1 : w36.frozen? ⟨g1, 1, none⟩ = false := Bk.Blk.fro bs 1
            have c_bs2 : w36.cell? ⟨g1, 2, none⟩ = some (.int .i64 bc2) := Bk.Blk.cell bs 2
            have f_bs2 : w36.frozen? ⟨g1, 2, none⟩ = false := Bk.Blk.fro bs 2
            have c_bs3 : w36.cell? ⟨g1, 3, none⟩ = some (.int .i64 0) := Bk.Blk.cell bs 3
            have f_bs3 : w36.frozen? ⟨g1, 3, none⟩ = false := Bk.Blk.fro bs 3
            have c_bs4 : w36.cell? ⟨g1, 4, none⟩ = some (.bool false) := Bk.Blk.cell bs 4
            have f_bs4 : w36.frozen? ⟨g1, 4, none⟩ = false := Bk.Blk.fro bs 4
            go_upto_block 2 with fail
            clear l_bs c_bs0 f_bs0 c_bs1 f_bs1 c_bs2 f_bs2 c_bs3 f_bs3 c_bs4 f_bs4
            generalize hW : World.alloc _ _ = w37
            have hs37 : w36.heap.size ≤ w37.heap.size := by rw [← hW]; simp [Bk.size_set]
            have hk37 : ∀ q, q ≠ g1 → q < w36.heap.size → w37.heap[q]? = w36.heap[q]? := fun q hq hlt => by rw [← hW]; refine (Below.heap_alloc _ _ q (by simp only [Bk.size_set]; exact hlt)).trans ?_; (repeat refine (Below.heap_setCell _ _ _ q (by simpa using hq)).trans ?_); rfl
            replace HTL := Lib.hid (HTL.out.keep (w' := w37) hs37 fun q h1 h2 => hk37 q (by omega) h2)
            replace RP := Lib.hid (RP.out.next (w' := w37) hs37 fun q h1 h2 => hk37 q (by omega) h2)
            replace bs : Bk.Blk w37 (g1) 76 #[.int .i64 L, .bool po, .int .i64 bc2, .int .i64 pi, .bool false] := (by rw [← hW]; apply Bk.Blk.to; (focus ((repeat (first | with_reducible assumption | (with_reducible apply Bk.Blk.newAt; focus (first | (simp [Bk.size_set]; done) | (simp [Bk.size_set]; omega))) | with_reducible apply Bk.Blk.drewN | with_reducible apply Bk.Blk.drew | with_reducible apply Bk.Blk.set_ | (with_reducible apply Bk.Blk.far; focus (dsimp only; first | omega | (simp; omega) | (simp; done))) | with_reducible apply Bk.Blk.alloc)))); rfl)
            replace bp : Bk.Blk w37 (g2) 39 #[.slice Ap 1 cp] := (by rw [← hW]; (repeat (first | with_reducible assumption | (with_reducible apply Bk.Blk.newAt; focus (first | (simp [Bk.size_set]; done) | (simp [Bk.size_set]; omega))) | with_reducible apply Bk.Blk.drewN | with_reducible apply Bk.Blk.drew | with_reducible apply Bk.Blk.set_ | (with_reducible apply Bk.Blk.far; focus (dsimp only; first | omega | (simp; omega) | (simp; done))) | with_reducible apply Bk.Blk.alloc)))
            replace bg : Bk.Blk w37 (g3) 27 #[.int .i64 pe, .slice G 0 0, .int .i64 0] := (by rw [← hW]; (repeat (first | with_reducible assumption | (with_reducible apply Bk.Blk.newAt; focus (first | (simp [Bk.size_set]; done) | (simp [Bk.size_set]; omega))) | with_reducible apply Bk.Blk.drewN | with_reducible apply Bk.Blk.drew | with_reducible apply Bk.Blk.set_ | (with_reducible apply Bk.Blk.far; focus (dsimp only; first | omega | (simp; omega) | (simp; done))) | with_reducible apply Bk.Blk.alloc)))
            replace B : Below w.heap.size w w37 := (by rw [← hW]; go_grown)
            have z37 : w37.heap.size = _ := congrArg (fun W : World => W.heap.size) hW.symm
            (try simp only [World.size_alloc, Bk.size_set, World.size_drew, World.drewN] at z37)
            clear hW
            clear hs37 hk37
            go_wp2_with fail
            go_loopw [10, 16, 17] (fun v10 v16 v17 wr => InRel w L st pe bc2 L0 g1 g2 g3 G A9 c9 xs v10 v16 v17 wr) (fun _ _ v17 _ => 10 - (intOf v17).toNat)
            case atStart => exact ⟨0, po, pi, fs, ys, A10, c10, Ap, cp, by omega, rfl, rfl, rfl, ⟨HFS.out.1, HFS.out.2.1, HFS.out.2.2.1, poll_start HPO.out HAW.out HPI.out HFS.out.2.1⟩, HTL.out, RP.out, bs, bp, bg, B⟩
            case round =>
              obtain ⟨w40, hw40⟩ : ∃ W, W = wr := ⟨_, rfl⟩
              subst hw40
              have hxl := HFS.out.2.2.2
              clear HTL RP HFS bs bp bg B HPO HPI
              obtain ⟨i, po, pi, fs, ys, A10, c10, Ap, cp, hi6, rfl, rfl, rfl, hfs, htl, hrp, bs, bp, bg, B⟩ := hrel
              have z40 := htl.1
              have HTL := Lib.hid htl
              have RP := Lib.hid hrp
              have HFS := Lib.hid hfs
              clear htl hrp hfs
              cases po
              · obtain ⟨hf0, rfl⟩ := HFS.out.2.2.2.2 rfl
                have HF0 := Lib.hid hf0
                clear hf0
                go_wp2_with fail
                go_roundw
                case rel => exact ⟨b + 1, fs, xs, ys, A9, c9, A10, c10, Ap, cp, by omega, by omega, by go_num, rfl, rfl, ⟨HFS.out.1, HFS.out.2.1, HFS.out.2.2.1, fun h => HF0.out (by rw [← HBC.out, ← h]; congr 1; omega), by omega⟩, HTL.out, RP.out, by rw [show ((b + 1 : Nat) : Int) - 1 = (b : Int) by omega, HBC.out]; exact bs, bp, bg, B⟩
                case measure => simp [intOf]; omega
              · obtain ⟨hlen, hil, rfl⟩ := HFS.out.2.2.2.1 rfl
                have hi10 : (i : Int) < 10 := by omega
                have l_bp : g2 < w40.heap.size := Bk.Blk.lt bp
                have c_bp0 : w40.cell? ⟨g2, 0, none⟩ = some (.slice Ap 1 cp) := Bk.Blk.cell bp 0
                have f_bp0 : w40.frozen? ⟨g2, 0, none⟩ = false := Bk.Blk.fro bp 0
                go_wp2_with fail
                clear l_bp c_bp0 f_bp0
                refine (pollP_some Ap 1 cp (oneK st fs) st 0 _ (oneK_find st fs) (by omega) hlen RP.out.rd (by omega) (oneK_few HFS.out.2.1 HFS.out.2.2.1)).mono ?_
                rintro x w41 ⟨A3, c3, D, dm, dd, rfl, hpi, ⟨hrd, hblk⟩, hb0⟩
                have HPQ := Lib.hid (show PbIn w41 w40.heap.size w41.heap.size A3 1 c3 (oneK st fs.tail) from hpi)
                clear hpi RP
                have HTL1 := Lib.hid (HTL.out.below hb0)
                replace bs : Bk.Blk w41 (g1) 76 #[.int .i64 L, .bool true, .int .i64 bc2, .int .i64 1, .bool false] := Bk.Blk.under hb0 (by (repeat (first | with_reducible assumption | (with_reducible apply Bk.Blk.newAt; focus (first | (simp [Bk.size_set]; done) | (simp [Bk.size_set]; omega))) | with_reducible apply Bk.Blk.drewN | with_reducible apply Bk.Blk.drew | with_reducible apply Bk.Blk.set_ | (with_reducible apply Bk.Blk.far; focus (dsimp only; first | omega | (simp; omega) | (simp; done))) | with_reducible apply Bk.Blk.alloc)))
                replace bp : Bk.Blk w41 (g2) 39 #[.slice Ap 1 cp] := Bk.Blk.under hb0 (by (repeat (first | with_reducible assumption | (with_reducible apply Bk.Blk.newAt; focus (first | (simp [Bk.size_set]; done) | (simp [Bk.size_set]; omega))) | with_reducible apply Bk.Blk.drewN | with_reducible apply Bk.Blk.drew | with_reducible apply Bk.Blk.set_ | (with_reducible apply Bk.Blk.far; focus (dsimp only; first | omega | (simp; omega) | (simp; done))) | with_reducible apply Bk.Blk.alloc)))
                replace bg : Bk.Blk w41 (g3) 27 #[.int .i64 pe, .slice G 0 0, .int .i64 0] := Bk.Blk.under hb0 (by (repeat (first | with_reducible assumption | (with_reducible apply Bk.Blk.newAt; focus (first | (simp [Bk.size_set]; done) | (simp [Bk.size_set]; omega))) | with_reducible apply Bk.Blk.drewN | with_reducible apply Bk.Blk.drew | with_reducible apply Bk.Blk.set_ | (with_reducible apply Bk.Blk.far; focus (dsimp only; first | omega | (simp; omega) | (simp; done))) | with_reducible apply Bk.Blk.alloc)))
                replace B : Below w.heap.size w w41 := Below.trans (by go_grown) (hb0.mono (by first | omega | (simp [Bk.size_set]; done) | (simp [Bk.size_set]; omega)))
                have z41 := hb0.size
                (try simp only [World.size_alloc, Bk.size_set, World.size_drew, World.drewN] at z41)
                clear hb0
                obtain ⟨mo, hmo⟩ : ∃ mo : Bool, decide (1 < fs.length) = mo := ⟨_, rfl⟩
                obtain ⟨pi2, hpi2⟩ : ∃ x : Int, (if mo then (1 : Int) else 0) = x := ⟨_, rfl⟩
                have HST := Lib.hid (poll_step (bc2 := bc2) HFS.out.1 HFS.out.2.1 HFS.out.2.2.1 hlen hil hmo hpi2)
                have HHT := Lib.hid (fun W => show Calls Try.prog 56 #[sv L true bc2 1 false, .bool mo] W (fun x w' => x = .returned (.tuple #[sv L mo bc2 pi2 false, .bool mo]) ∧ Below W.heap.size W w') from (hear_any L bc2 mo W l1 l8 c0 c7).mono (by rintro x w' ⟨rfl, hb⟩; refine ⟨?_, hb⟩; rw [← hpi2]; cases mo <;> rfl))
                have hyl : ys.length ≤ 32 := by have h := congrArg List.length HFS.out.1; rw [List.length_append] at h; omega
                have e1 : (ys ++ [fs.getD 0 []]).length = ys.length + 1 := by simp
                have HE1 := Lib.hid e1
                rw [show decide (1 < (nthK (oneK st fs) 0).fs.length) = mo from hmo]
                have HI7 := Lib.hid (show i + 1 ≤ 6 by omega)
                clear hmo hpi2 hlen hil e1
                have HRD := Lib.hid (show Rd w41 1 D dm dd ((fs.getD 0 []).map (Value.int .u8)) from hrd)
                have HBK := Lib.hid hblk
                clear hrd hblk
                generalize fs.getD 0 [] = bd at *
                have l_bs : g1 < w41.heap.size := Bk.Blk.lt bs
                have c_bs0 : w41.cell? ⟨g1, 0, none⟩ = some (.int .i64 L) := Bk.Blk.cell bs 0
                have f_bs0 : w41.frozen? ⟨g1, 0, none⟩ = false := Bk.Blk.fro bs 0
                have c_bs1 : w41.cell? ⟨g1, 1, none⟩ = some (.bool true) := Bk.Blk.cell bs 1
                have f_bs1 : w41.frozen? ⟨g1, 1, none⟩ = false := Bk.Blk.fro bs 1
                have c_bs2 : w41.cell? ⟨g1, 2, none⟩ = some (.int .i64 bc2) := Bk.Blk.cell bs 2
                have f_bs2 : w41.frozen? ⟨g1, 2, none⟩ = false := Bk.Blk.fro bs 2
                have c_bs3 : w41.cell? ⟨g1, 3, none⟩ = some (.int .i64 1) := Bk.Blk.cell bs 3
                have f_bs3 : w41.frozen? ⟨g1, 3, none⟩ = false := Bk.Blk.fro bs 3
                have c_bs4 : w41.cell? ⟨g1, 4, none⟩ = some (.bool false) := Bk.Blk.cell bs 4
                have f_bs4 : w41.frozen? ⟨g1, 4, none⟩ = false := Bk.Blk.fro bs 4
                have l_bp : g2 < w41.heap.size := Bk.Blk.lt bp
                have c_bp0 : w41.cell? ⟨g2, 0, none⟩ = some (.slice Ap 1 cp) := Bk.Blk.cell bp 0
                have f_bp0 : w41.frozen? ⟨g2, 0, none⟩ = false := Bk.Blk.fro bp 0
                go_wp2_with (at_builtin; refine Bk.stopHere ?_)
                show wpList _ _ _ _ _ _
                clear l_bs c_bs0 f_bs0 c_bs1 f_bs1 c_bs2 f_bs2 c_bs3 f_bs3 c_bs4 f_bs4 l_bp c_bp0 f_bp0
                generalize hWs : World.setCell w41 _ _ = w42
                generalize hWb : World.alloc w42 _ = w43
                generalize hWa : World.alloc w43 _ = w44
                have zs : w42.heap.size = w41.heap.size := by rw [← hWs]; exact Bk.size_set _ _ _
                have zb : w43.heap.size = w42.heap.size + 1 := by rw [← hWb]; simp
                have za : w44.heap.size = w43.heap.size + 1 := by rw [← hWa]; simp
                have hb43 : Below w42.heap.size w42 w43 := by rw [← hWb]; go_grown
                have hb44 : Below w43.heap.size w43 w44 := by rw [← hWa]; go_grown
                have hk42 : ∀ q, q ≠ g2 → w42.heap[q]? = w41.heap[q]? := fun q hq => by rw [← hWs]; exact Below.heap_setCell _ _ _ q (by simpa using hq)
                have hk44 : ∀ q, q ≠ g2 → q < w41.heap.size → w44.heap[q]? = w41.heap[q]? := fun q hq hlt => (hb44.block q (by omega)).trans ((hb43.block q (by omega)).trans (hk42 q hq))
                have HTL5 := (HTL1.out.keep (w' := w44) (by omega) fun q h1 h2 => hk44 q (by omega) h2)
                have HPI5 := Lib.hid (HPQ.out.keep (w' := w44) fun q h1 h2 => hk44 q (by omega) h2)
                have HBD5 := (show Rd w44 1 D dm dd (bd.map (Value.int .u8)) from HRD.out.keep fun _ q hA hlt => hk44 q (by have := HBK.out q hA; omega) hlt)
                replace bs : Bk.Blk w44 g1 76 #[.int .i64 L, .bool true, .int .i64 bc2, .int .i64 1, .bool false] := (((by rw [← hWs]; (repeat (first | with_reducible assumption | (with_reducible apply Bk.Blk.newAt; focus (first | (simp [Bk.size_set]; done) | (simp [Bk.size_set]; omega))) | with_reducible apply Bk.Blk.drewN | with_reducible apply Bk.Blk.drew | with_reducible apply Bk.Blk.set_ | (with_reducible apply Bk.Blk.far; focus (dsimp only; first | omega | (simp; omega) | (simp; done))) | with_reducible apply Bk.Blk.alloc)) : Bk.Blk w42 g1 76 #[.int .i64 L, .bool true, .int .i64 bc2, .int .i64 1, .bool false])).under hb43).under hb44
                replace bg : Bk.Blk w44 g3 27 #[.int .i64 pe, .slice G 0 0, .int .i64 0] := (((by rw [← hWs]; (repeat (first | with_reducible assumption | (with_reducible apply Bk.Blk.newAt; focus (first | (simp [Bk.size_set]; done) | (simp [Bk.size_set]; omega))) | with_reducible apply Bk.Blk.drewN | with_reducible apply Bk.Blk.drew | with_reducible apply Bk.Blk.set_ | (with_reducible apply Bk.Blk.far; focus (dsimp only; first | omega | (simp; omega) | (simp; done))) | with_reducible apply Bk.Blk.alloc)) : Bk.Blk w42 g3 27 #[.int .i64 pe, .slice G 0 0, .int .i64 0])).under hb43).under hb44
                replace bp : Bk.Blk w44 g2 39 #[.slice A3 1 c3] := (((by rw [← hWs]; apply Bk.Blk.to; (focus (repeat (first | with_reducible assumption | (with_reducible apply Bk.Blk.newAt; focus (first | (simp [Bk.size_set]; done) | (simp [Bk.size_set]; omega))) | with_reducible apply Bk.Blk.drewN | with_reducible apply Bk.Blk.drew | with_reducible apply Bk.Blk.set_ | (with_reducible apply Bk.Blk.far; focus (dsimp only; first | omega | (simp; omega) | (simp; done))) | with_reducible apply Bk.Blk.alloc))); rfl : Bk.Blk w42 g2 39 #[.slice A3 1 c3])).under hb43).under hb44
                replace B : Below w.heap.size w w44 := Below.trans (Below.trans (by rw [← hWs]; go_grown) (hb43.mono (by omega))) (hb44.mono (by omega))
                have re := rd_oneA hWa
                rw [show w43.heap.size = w41.heap.size + 1 by omega] at re
                obtain ⟨ss, hown, hst⟩ := HTL5.swap.app
                have hT0 := HTL5.1
                refine wpl_app _ rfl _ _ 22 rfl L0 25 ip (.slice none 0 0) 1 24 Try.underlying22 hip hp0 hp1 hp2 rfl (by decide) _ _ _ _ rfl hown _ 1 1 [.slice D dm dd] rfl re (fun u hu => by simp at hu; subst hu; rfl) (by unfold maxLen; omega) (by omega) hT0 ?_
                intro A6 c6 w45 own6 hg6 hat6
                have hfre := fun q (hq : w40.heap.size ≤ q) => HTL.out.fresh hq
                have HTL6 := Lib.hid (hst w45 D dm dd bd A6 c6 HBD5 (fun q hq => by have h1 := HBK.out q hq; have h2 := hfre q h1.1; exact ⟨h2.1, by omega, h2.2.2, h2.2.1⟩) own6 hg6 hat6).swap
                have RP6 := Lib.hid ((HPI5.out.keep (w' := w45) fun q h1 h2 => hg6.block q (by omega) (fun e => (hfre q (by omega)).2.2 e.symm)).wider (show g2 + 1 ≤ _ by omega) (show _ ≤ w45.heap.size by have := hg6.size; omega))
                replace bs : Bk.Blk w45 g1 76 #[.int .i64 L, .bool true, .int .i64 bc2, .int .i64 1, .bool false] := blk_grownA hg6 (own_ne hown bs (by decide)) bs
                replace bg : Bk.Blk w45 g3 27 #[.int .i64 pe, .slice G 0 0, .int .i64 0] := blk_grownA hg6 (own_ne hown bg (by decide)) bg
                replace bp : Bk.Blk w45 g2 39 #[.slice A3 1 c3] := blk_grownA hg6 (own_ne hown bp (by decide)) bp
                replace B : Below w.heap.size w w45 := Mem.below_app B hg6 (by omega) (fun q hq => by have := own_lo hown q hq; omega)
                clear HTL5 HPI5 HBD5 hst hown own6 hg6 hat6 hfre re hk42 hk44 hWs hWa hWb hb43 hb44 HTL HTL1 HPQ HRD HBK
                have z45 := B.size
                have l_bs : g1 < w45.heap.size := Bk.Blk.lt bs
                have c_bs0 : w45.cell? ⟨g1, 0, none⟩ = some (.int .i64 L) := Bk.Blk.cell bs 0
                have f_bs0 : w45.frozen? ⟨g1, 0, none⟩ = false := Bk.Blk.fro bs 0
                have c_bs1 : w45.cell? ⟨g1, 1, none⟩ = some (.bool true) := Bk.Blk.cell bs 1
                have f_bs1 : w45.frozen? ⟨g1, 1, none⟩ = false := Bk.Blk.fro bs 1
                have c_bs2 : w45.cell? ⟨g1, 2, none⟩ = some (.int .i64 bc2) := Bk.Blk.cell bs 2
                have f_bs2 : w45.frozen? ⟨g1, 2, none⟩ = false := Bk.Blk.fro bs 2
                have c_bs3 : w45.cell? ⟨g1, 3, none⟩ = some (.int .i64 1) := Bk.Blk.cell bs 3
                have f_bs3 : w45.frozen? ⟨g1, 3, none⟩ = false := Bk.Blk.fro bs 3
                have c_bs4 : w45.cell? ⟨g1, 4, none⟩ = some (.bool false) := Bk.Blk.cell bs 4
                have f_bs4 : w45.frozen? ⟨g1, 4, none⟩ = false := Bk.Blk.fro bs 4
                go_wp2_with fail
                clear l_bs c_bs0 f_bs0 c_bs1 f_bs1 c_bs2 f_bs2 c_bs3 f_bs3 c_bs4 f_bs4
                refine (HHT.out _).mono ?_
                rintro x w46 ⟨rfl, hb0⟩
                replace HTL6 := Lib.hid (HTL6.out.below hb0)
                replace RP6 := Lib.hid (RP6.out.below2 hb0)
                replace bs : Bk.Blk w46 (g1) 76 #[.int .i64 L, .bool true, .int .i64 bc2, .int .i64 1, .bool false] := Bk.Blk.under hb0 (by (repeat (first | with_reducible assumption | (with_reducible apply Bk.Blk.newAt; focus (first | (simp [Bk.size_set]; done) | (simp [Bk.size_set]; omega))) | with_reducible apply Bk.Blk.drewN | with_reducible apply Bk.Blk.drew | with_reducible apply Bk.Blk.set_ | (with_reducible apply Bk.Blk.far; focus (dsimp only; first | omega | (simp; omega) | (simp; done))) | with_reducible apply Bk.Blk.alloc)))
                replace bp : Bk.Blk w46 (g2) 39 #[.slice A3 1 c3] := Bk.Blk.under hb0 (by (repeat (first | with_reducible assumption | (with_reducible apply Bk.Blk.newAt; focus (first | (simp [Bk.size_set]; done) | (simp [Bk.size_set]; omega))) | with_reducible apply Bk.Blk.drewN | with_reducible apply Bk.Blk.drew | with_reducible apply Bk.Blk.set_ | (with_reducible apply Bk.Blk.far; focus (dsimp only; first | omega | (simp; omega) | (simp; done))) | with_reducible apply Bk.Blk.alloc)))
                replace bg : Bk.Blk w46 (g3) 27 #[.int .i64 pe, .slice G 0 0, .int .i64 0] := Bk.Blk.under hb0 (by (repeat (first | with_reducible assumption | (with_reducible apply Bk.Blk.newAt; focus (first | (simp [Bk.size_set]; done) | (simp [Bk.size_set]; omega))) | with_reducible apply Bk.Blk.drewN | with_reducible apply Bk.Blk.drew | with_reducible apply Bk.Blk.set_ | (with_reducible apply Bk.Blk.far; focus (dsimp only; first | omega | (simp; omega) | (simp; done))) | with_reducible apply Bk.Blk.alloc)))
                replace B : Below w.heap.size w w46 := Below.trans (by go_grown) (hb0.mono (by first | omega | (simp [Bk.size_set]; done) | (simp [Bk.size_set]; omega)))
                have z46 := hb0.size
                (try simp only [World.size_alloc, Bk.size_set, World.size_drew, World.drewN] at z46)
                clear hb0
                have l_bs : g1 < w46.heap.size := Bk.Blk.lt bs
                have c_bs0 : w46.cell? ⟨g1, 0, none⟩ = some (.int .i64 L) := Bk.Blk.cell bs 0
                have f_bs0 : w46.frozen? ⟨g1, 0, none⟩ = false := Bk.Blk.fro bs 0
                have c_bs1 : w46.cell? ⟨g1, 1, none⟩ = some (.bool true) := Bk.Blk.cell bs 1
                have f_bs1 : w46.frozen? ⟨g1, 1, none⟩ = false := Bk.Blk.fro bs 1
                have c_bs2 : w46.cell? ⟨g1, 2, none⟩ = some (.int .i64 bc2) := Bk.Blk.cell bs 2
                have f_bs2 : w46.frozen? ⟨g1, 2, none⟩ = false := Bk.Blk.fro bs 2
                have c_bs3 : w46.cell? ⟨g1, 3, none⟩ = some (.int .i64 1) := Bk.Blk.cell bs 3
                have f_bs3 : w46.frozen? ⟨g1, 3, none⟩ = false := Bk.Blk.fro bs 3
                have c_bs4 : w46.cell? ⟨g1, 4, none⟩ = some (.bool false) := Bk.Blk.cell bs 4
                have f_bs4 : w46.frozen? ⟨g1, 4, none⟩ = false := Bk.Blk.fro bs 4
                go_wp2_with fail
                clear l_bs c_bs0 f_bs0 c_bs1 f_bs1 c_bs2 f_bs2 c_bs3 f_bs3 c_bs4 f_bs4
                generalize hW : World.setCell _ _ _ = w47
                have hs47 : w47.heap.size = w46.heap.size := by rw [← hW]; simp only [Bk.size_set]
                have hk47 : ∀ q, q ≠ g1 → w47.heap[q]? = w46.heap[q]? := fun q hq => by rw [← hW]; (repeat refine (Below.heap_setCell _ _ _ q (by simpa using hq)).trans ?_); rfl
                replace HTL6 := Lib.hid (HTL6.out.keep (w' := w47) (by omega) fun q h1 _ => hk47 q (by omega))
                replace RP6 := Lib.hid (RP6.out.next (w' := w47) (by omega) fun q h1 _ => hk47 q (by omega))
                replace bs : Bk.Blk w47 (g1) 76 #[.int .i64 L, .bool mo, .int .i64 bc2, .int .i64 pi2, .bool false] := (by rw [← hW]; apply Bk.Blk.to; (focus ((repeat (first | with_reducible assumption | (with_reducible apply Bk.Blk.newAt; focus (first | (simp [Bk.size_set]; done) | (simp [Bk.size_set]; omega))) | with_reducible apply Bk.Blk.drewN | with_reducible apply Bk.Blk.drew | with_reducible apply Bk.Blk.set_ | (with_reducible apply Bk.Blk.far; focus (dsimp only; first | omega | (simp; omega) | (simp; done))) | with_reducible apply Bk.Blk.alloc)))); rfl)
                replace bp : Bk.Blk w47 (g2) 39 #[.slice A3 1 c3] := (by rw [← hW]; (repeat (first | with_reducible assumption | (with_reducible apply Bk.Blk.newAt; focus (first | (simp [Bk.size_set]; done) | (simp [Bk.size_set]; omega))) | with_reducible apply Bk.Blk.drewN | with_reducible apply Bk.Blk.drew | with_reducible apply Bk.Blk.set_ | (with_reducible apply Bk.Blk.far; focus (dsimp only; first | omega | (simp; omega) | (simp; done))) | with_reducible apply Bk.Blk.alloc)))
                replace bg : Bk.Blk w47 (g3) 27 #[.int .i64 pe, .slice G 0 0, .int .i64 0] := (by rw [← hW]; (repeat (first | with_reducible assumption | (with_reducible apply Bk.Blk.newAt; focus (first | (simp [Bk.size_set]; done) | (simp [Bk.size_set]; omega))) | with_reducible apply Bk.Blk.drewN | with_reducible apply Bk.Blk.drew | with_reducible apply Bk.Blk.set_ | (with_reducible apply Bk.Blk.far; focus (dsimp only; first | omega | (simp; omega) | (simp; done))) | with_reducible apply Bk.Blk.alloc)))
                replace B : Below w.heap.size w w47 := (by rw [← hW]; go_grown)
                have z47 : w47.heap.size = _ := congrArg (fun W : World => W.heap.size) hW.symm
                (try simp only [World.size_alloc, Bk.size_set, World.size_drew, World.drewN] at z47)
                clear hW
                clear hs47 hk47
                go_roundw
                case rel => exact ⟨i + 1, mo, pi2, fs.tail, ys ++ [bd], A6, c6, A3, c3, HI7.out, by go_num, rfl, by rw [HE1.out], HST.out, by rw [HE1.out]; exact HTL6.out, RP6.out, bs, bp, bg, B⟩
                case measure => simp [intOf]; omega
      · obtain rfl : fs = [] := HFS.out.2.2.2.1 (by rw [show (b : Int) - 1 = 4 * L + 1 - 1 by omega]; exact mod_four l1 l8)
        have HXY := Lib.hid (show ys = xs from by rw [HFS.out.1, List.append_nil])
        clear HFS hfl
        generalize ((b : Int) - 1) % L = bc at *
        go_wp2_with fail
        refine (eqSS_same A10 ys.length c10 ys A9 xs.length c9 xs _ HTL.out.swap.rd HTL.out.rd).mono ?_
        rintro e w21 ⟨rfl, hb0⟩
        rw [decide_eq_true HXY.out]
        replace RP := Lib.hid (RP.out.below2 hb0)
        replace bs : Bk.Blk w21 (g1) 76 #[.int .i64 L, .bool false, .int .i64 bc, .int .i64 0, .bool false] := Bk.Blk.under hb0 (by (repeat (first | with_reducible assumption | (with_reducible apply Bk.Blk.newAt; focus (first | (simp [Bk.size_set]; done) | (simp [Bk.size_set]; omega))) | with_reducible apply Bk.Blk.drewN | with_reducible apply Bk.Blk.drew | with_reducible apply Bk.Blk.set_ | (with_reducible apply Bk.Blk.far; focus (dsimp only; first | omega | (simp; omega) | (simp; done))) | with_reducible apply Bk.Blk.alloc)))
        replace bp : Bk.Blk w21 (g2) 39 #[.slice Ap 1 cp] := Bk.Blk.under hb0 (by (repeat (first | with_reducible assumption | (with_reducible apply Bk.Blk.newAt; focus (first | (simp [Bk.size_set]; done) | (simp [Bk.size_set]; omega))) | with_reducible apply Bk.Blk.drewN | with_reducible apply Bk.Blk.drew | with_reducible apply Bk.Blk.set_ | (with_reducible apply Bk.Blk.far; focus (dsimp only; first | omega | (simp; omega) | (simp; done))) | with_reducible apply Bk.Blk.alloc)))
        replace B : Below w.heap.size w w21 := Below.trans (by go_grown) (hb0.mono (by first | omega | (simp [Bk.size_set]; done) | (simp [Bk.size_set]; omega)))
        have z21 := hb0.size
        (try simp only [World.size_alloc, Bk.size_set, World.size_drew, World.drewN] at z21)
        clear hb0
        have l_bs : g1 < w21.heap.size := Bk.Blk.lt bs
        have c_bs0 : w21.cell? ⟨g1, 0, none⟩ = some (.int .i64 L) := Bk.Blk.cell bs 0
        have f_bs0 : w21.frozen? ⟨g1, 0, none⟩ = false := Bk.Blk.fro bs 0
        have c_bs1 : w21.cell? ⟨g1, 1, none⟩ = some (.bool false) := Bk.Blk.cell bs 1
        have f_bs1 : w21.frozen? ⟨g1, 1, none⟩ = false := Bk.Blk.fro bs 1
        have c_bs2 : w21.cell? ⟨g1, 2, none⟩ = some (.int .i64 bc) := Bk.Blk.cell bs 2
        have f_bs2 : w21.frozen? ⟨g1, 2, none⟩ = false := Bk.Blk.fro bs 2
        have c_bs3 : w21.cell? ⟨g1, 3, none⟩ = some (.int .i64 0) := Bk.Blk.cell bs 3
        have f_bs3 : w21.frozen? ⟨g1, 3, none⟩ = false := Bk.Blk.fro bs 3
        have c_bs4 : w21.cell? ⟨g1, 4, none⟩ = some (.bool false) := Bk.Blk.cell bs 4
        have f_bs4 : w21.frozen? ⟨g1, 4, none⟩ = false := Bk.Blk.fro bs 4
        have l_bp : g2 < w21.heap.size := Bk.Blk.lt bp
        have c_bp0 : w21.cell? ⟨g2, 0, none⟩ = some (.slice Ap 1 cp) := Bk.Blk.cell bp 0
        have f_bp0 : w21.frozen? ⟨g2, 0, none⟩ = false := Bk.Blk.fro bp 0
        go_wp2_with fail
        clear l_bs c_bs0 f_bs0 c_bs1 f_bs1 c_bs2 f_bs2 c_bs3 f_bs3 c_bs4 f_bs4 l_bp c_bp0 f_bp0
        refine (kept_impl Ap 1 cp (oneK st []) st _ RP.out.rd).mono ?_
        rintro e w22 ⟨i, hi, rfl, hb0⟩
        obtain rfl := find_one (oneK_find st []) hi
        have hk : (if (0 : Int) < 0 then (0 : Int) else ((nthK (oneK st []) (0 : Int).toNat).fs.length : Int)) = 0 := rfl
        rw [hk]
        replace B : Below w.heap.size w w22 := Below.trans (by go_grown) (hb0.mono (by first | omega | (simp [Bk.size_set]; done) | (simp [Bk.size_set]; omega)))
        have z22 := hb0.size
        (try simp only [World.size_alloc, Bk.size_set, World.size_drew, World.drewN] at z22)
        clear hb0
        go_wp2
        go_ret
        exact ⟨rfl, B⟩
end Go.Proofs.Ythdieeaegplnmaa.Pb
