/- Contracts of PasswordElement. -/
import Derived.Test.YtbiipcgiionhpaaBytes
import Derived.Test.YtbiipcgiionhpaaGroupWords
import Derived.Laws.IdiomStrings
namespace Go.Proofs.Ytbiipcgiionhpaa.Pass
open Go.RowKit
open Go.Proofs.Ytbiipcgiionhpaa.Num Go.Proofs.Ytbiipcgiionhpaa.Mem Go.Proofs.Ytbiipcgiionhpaa.Hsh Go.Proofs.Ytbiipcgiionhpaa.Grp

/-- a string's bytes as numbers -/
def sBytes (s : ByteArray) : List Int := s.data.toList.map (fun b => (b.toNat : Int))
theorem sBytes_len (s : ByteArray) : (sBytes s).length = s.size := by simp [sBytes]
theorem sBytes_all (s : ByteArray) : AllBytes (sBytes s) := by
  intro z hz
  obtain ⟨b, _, rfl⟩ := List.mem_map.1 hz
  have := b.toNat_lt
  omega
/-- '[]byte(s)': a new block that reads as the string's bytes -/
theorem bytes_conv (w : World) (s : ByteArray) (hs : s.size ≤ 2097152) : ∃ (cap : Nat) (o : Obj), (convert 9 22 (.string s)).run Try.prog w = .ok (.slice (some ⟨w.heap.size, 0, none⟩) s.size cap) (w.drew.alloc o) ∧
    Rd (w.drew.alloc o) 1 (some ⟨w.heap.size, 0, none⟩) s.size cap ((sBytes s).map (Value.int .u8)) := by
  refine ⟨_, _, run_bytes_of_string (P := Try.prog) w 9 22 5 s Try.underlying9 Try.underlying22 Try.underlying5, ?_⟩
  have h1 := grownCap_ge w s.size 0 5
  have h2 := grownCap_le_maxLen w s.size 0 5 (by unfold maxLen; omega)
  generalize grownCap w s.size 0 5 = cap at h1 h2
  refine ⟨by rw [List.length_map, sBytes_len]; omega, h1, h2, (fun e => by cases e), fun _ => ⟨_, _, rfl, fun j hj => ?_⟩⟩
  rw [List.length_map, sBytes_len] at hj
  rw [Nat.zero_add]
  have hg : (w.drew.alloc (.cells (bytesRow s cap) 5 ((bytesRow s cap).size, (bytesRow s cap).size + 1))).heap[w.heap.size]? = some (.cells (bytesRow s cap) 5 ((bytesRow s cap).size, (bytesRow s cap).size + 1)) := heap_alloc_new w.drew _
  rw [cell_of_row _ _ j _ _ _ hg]
  unfold bytesRow sBytes
  have hsz : j < s.data.size := hj
  rw [Array.getElem?_append_left (by simpa using hsz)]
  simp only [Array.getElem?_map, List.getElem?_map, List.map_map, Array.getElem?_toList]
  rfl

def passE (h : Int) : Int := (h * h % 2147483647 % 2039) * (h * h % 2147483647 % 2039) % 2039
/-- the first good element of n tries from number k on, 4 if there is none -/
def passGo (vals : List Int) : Nat → Int → Int
  | 0, _ => 4
  | n + 1, k => if 1 < passE (hashL (keyed k vals)) then passE (hashL (keyed k vals)) else passGo vals n (k + 1)
def passVals (s : ByteArray) (a b : Int) : List Int := bytesNums (sBytes s) ++ [maxI a b, minI a b]
/-- the element of a password and two stations -/
def passM (s : ByteArray) (a b : Int) : Int := if 16 < s.size then 0 else passGo (passVals s a b) 40 1
theorem sq_bd {h k : Int} (h0 : 0 ≤ h) (h1 : h ≤ k) : 0 ≤ h * h ∧ h * h ≤ k * k := ⟨Int.mul_nonneg h0 h0, Int.mul_le_mul h1 h1 h0 (by omega)⟩
theorem max_in {a b : Int} (ha : -9223372036854775808 ≤ a ∧ a ≤ 9223372036854775807) (hb : -9223372036854775808 ≤ b ∧ b ≤ 9223372036854775807) : -9223372036854775808 ≤ maxI a b ∧ maxI a b ≤ 9223372036854775807 := by unfold maxI; split <;> omega
theorem min_in {a b : Int} (ha : -9223372036854775808 ≤ a ∧ a ≤ 9223372036854775807) (hb : -9223372036854775808 ≤ b ∧ b ≤ 9223372036854775807) : -9223372036854775808 ≤ minI a b ∧ minI a b ≤ 9223372036854775807 := by unfold minI; split <;> omega
theorem vals_wf {s : ByteArray} {a b : Int} (hs : s.size ≤ 16) (ha : -9223372036854775808 ≤ a ∧ a ≤ 9223372036854775807) (hb : -9223372036854775808 ≤ b ∧ b ≤ 9223372036854775807) : ∀ z ∈ passVals s a b, -9223372036854775808 ≤ z ∧ z ≤ 9223372036854775807 := by
  intro z hz
  simp only [passVals, bytesNums, List.mem_append, List.mem_cons, List.not_mem_nil, or_false] at hz
  rcases hz with (rfl | h) | rfl | rfl
  · rw [sBytes_len]; omega
  · have := sBytes_all s z h; omega
  · exact max_in ha hb
  · exact min_in ha hb
theorem vals_map (s : ByteArray) (a b : Int) : (passVals s a b).map (Value.int .i64) = (bytesNums (sBytes s)).map (Value.int .i64) ++ [.int .i64 (maxI a b), .int .i64 (minI a b)] := by simp [passVals]

/-- what the tries' loop keeps -/
def PassRel (vals : List Int) (R : Int) (j : Nat) : Prop := j ≤ 40 ∧ passGo vals (40 - j) ((j : Int) + 1) = R
theorem PassRel.start (vals : List Int) : PassRel vals (passGo vals 40 1) 0 := ⟨by omega, rfl⟩
theorem PassRel.hit {vals : List Int} {R : Int} {j : Nat} (h : PassRel vals R j) (hj : j < 40) {x : Int} (hx : passE (hashL (keyed ((j : Int) + 1) vals)) = x) (h1 : 1 < x) : x = R := by
  have h2 := h.2
  rw [show 40 - j = (39 - j) + 1 by omega, passGo, hx, if_pos h1] at h2
  exact h2
theorem PassRel.next {vals : List Int} {R : Int} {j : Nat} (h : PassRel vals R j) (hj : j < 40) {x : Int} (hx : passE (hashL (keyed ((j : Int) + 1) vals)) = x) (h1 : ¬ 1 < x) : PassRel vals R (j + 1) := by
  have h2 := h.2
  rw [show 40 - j = (39 - j) + 1 by omega, passGo, hx, if_neg h1] at h2
  refine ⟨by omega, ?_⟩
  rw [show 40 - (j + 1) = 39 - j by omega]
  exact h2
theorem PassRel.done {vals : List Int} {R : Int} {j : Nat} (h : PassRel vals R j) (hj : ¬ j < 40) : 4 = R := by
  have h2 := h.2
  rw [show 40 - j = 0 by omega, passGo] at h2
  exact h2

set_option maxRecDepth 100000 in
set_option maxHeartbeats 2000000 in
theorem pass_impl (s : ByteArray) (a b : Int) (w : World) (hsz : s.size ≤ 9223372036854775807) (ha : -9223372036854775808 ≤ a ∧ a ≤ 9223372036854775807) (hb : -9223372036854775808 ≤ b ∧ b ≤ 9223372036854775807) :
    Calls Try.prog 14 #[.string s, .int .i64 a, .int .i64 b] w fun e w' => e = .returned (.int .i64 (passM s a b)) ∧ Below w.heap.size w w' := by
  unfold passM
  by_cases h16 : 16 < s.size
  · rw [if_pos h16]
    go_enter Try.func14, Try.ntmps14
    go_wp2
    go_ret
    exact ⟨rfl, Below.refl _ _⟩
  · rw [if_neg h16]
    obtain ⟨cap, o, hconv, hrd⟩ := bytes_conv w s (by omega)
    obtain ⟨i0, hi, hz0, hz1, hz2⟩ := info_parts intInfo
    have HRD := Lib.hid hrd
    have HV := Lib.hid (vals_wf (s := s) (by omega) ha hb)
    have HM := Lib.hid (vals_map s a b)
    have HP := Lib.hid (PassRel.start (passVals s a b))
    have HL := Lib.hid (sBytes_len s)
    have HA := Lib.hid (sBytes_all s)
    clear hrd ha hb
    generalize passGo (passVals s a b) 40 1 = R at HP ⊢
    generalize passVals s a b = vals at HV HM HP
    generalize sBytes s = bs at HRD HM HL HA
    go_enter Try.func14, Try.ntmps14
    go_wp2_with fail
    refine (bytesToInts_impl _ _ _ bs _ HRD.out (by omega) HA.out).mono ?_
    rintro e w1 ⟨A1, c1, rfl, hown, hb1⟩
    have B := Lib.hid (((Below.refl w.heap.size w).drew.alloc (Nat.le_refl _) o).trans (hb1.mono (by simp)))
    have hs1 := hb1.size
    simp at hs1
    have hown1 := Lib.hid hown
    clear hown hb1 hconv
    go_wp2_with (first | (go_at_call 37; refine (max_impl _ _ _).mono ?_; rintro x w' ⟨rfl, rfl⟩) | (go_at_call 38; refine (min_impl _ _ _).mono ?_; rintro x w' ⟨rfl, rfl⟩) | (at_builtin; refine wpl_app _ rfl _ _ 38 rfl _ 3 i0 (.int .i64 0) 1 8 Try.underlying38 hi hz0 hz1 hz2 rfl (by decide) _ _ _ _ rfl (hown1.out.alloc _) _ 2 2 [.int .i64 (maxI a b), .int .i64 (minI a b)] rfl (by exact Rd.lit _ [.int .i64 (maxI a b), .int .i64 (minI a b)] _ 2 rfl (by unfold maxLen; omega)) (one_ints .i64 [maxI a b, minI a b]) (by unfold maxLen; omega) (by omega) (by simp; omega) ?_; intro A2 c2 w2 hown2 hg2 hat2; have hb2 : Below w.heap.size w w2 := below_app (B.out.alloc B.out.size _) hg2 (by simp; omega) (fun g hg => by have := (blk_of_own hown1.out g hg).1; simp at this; omega); have HO2 := Lib.hid (Rd.of_own hown2); have HB2 := Lib.hid hb2; clear hown2 hg2 hat2 hb2))
    have HR2 := Lib.hid (show Rd w2 1 A2 (s.size + 1 + 2) c2 (vals.map (Value.int .i64)) by rw [HM.out]; exact HO2.out)
    clear HO2 HM hs1
    have hsz2 : s.size ≤ 16 := by omega
    go_loopw [8] (fun v8 wr => ∃ j : Nat, PassRel vals R j ∧ v8 = .int .i64 ((j : Int) + 1) ∧ Below w2.heap.size w2 wr) (fun v8 _ => 41 - (intOf v8).toNat)
    case atStart => exact ⟨0, HP.out, rfl, Below.refl _ _⟩
    case round =>
      obtain ⟨j, hR, rfl, hbr⟩ := hrel
      have HRel := Lib.hid hR
      have hj40 := hR.1
      have HBR := Lib.hid hbr
      clear hR hbr HP
      by_cases hlt : (j : Int) + 1 ≤ 40
      · go_wp2_with fail
        refine (keyedHash_impl _ _ _ _ vals _ (HR2.out.below HBR.out) (by omega) (by omega) HV.out).mono ?_
        rintro e w3 ⟨rfl, hb3⟩
        have HB3 := Lib.hid (HBR.out.trans (hb3.mono HBR.out.size))
        clear hb3
        obtain ⟨h0, h1⟩ := hashL_bd (keyed ((j : Int) + 1) vals)
        obtain ⟨x, hE⟩ : ∃ x, passE (hashL (keyed ((j : Int) + 1) vals)) = x := ⟨_, rfl⟩
        have HE := Lib.hid hE
        unfold passE at hE
        generalize hashL (keyed ((j : Int) + 1) vals) = h at h0 h1 hE ⊢
        obtain ⟨s0, s1⟩ := sq_bd (k := 2147483646) h0 (by omega)
        have v0 : 0 ≤ h * h % 2147483647 % 2039 ∧ h * h % 2147483647 % 2039 ≤ 2038 := by omega
        obtain ⟨t0, t1⟩ := sq_bd (k := 2038) v0.1 v0.2
        obtain ⟨v0, v1⟩ := v0
        have HEE := Lib.hid hE
        clear hE
        by_cases hgt : 1 < (h * h % 2147483647 % 2039) * (h * h % 2147483647 % 2039) % 2039
        · go_wp2
          go_ret
          exact ⟨ret_int ((HEE.out).trans (HRel.out.hit (by omega) HE.out (by rw [← HEE.out]; exact hgt))), HB2.out.trans (HB3.out.mono HB2.out.size)⟩
        · go_wp2
          go_roundw
          case rel => exact ⟨j + 1, HRel.out.next (by omega) HE.out (by rw [← HEE.out]; exact Int.not_lt.2 hgt), by go_num, HB3.out⟩
          case measure => simp [intOf]; omega
      · go_wp2
        go_ret
        exact ⟨ret_int (HRel.out.done (by omega)), HB2.out.trans (HBR.out.mono HB2.out.size)⟩
end Go.Proofs.Ytbiipcgiionhpaa.Pass
