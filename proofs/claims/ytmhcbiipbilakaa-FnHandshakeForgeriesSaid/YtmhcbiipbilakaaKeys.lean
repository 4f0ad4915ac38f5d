/- Keys: keyed hashes that are never zero; codes of messages. -/
import Derived.Test.YtmhcbiipbilakaaKeyed
import Derived.Deep.RegionHeld3
namespace Go.Proofs.Ytmhcbiipbilakaa.Keys
open Go.RowKit
open Go.Proofs.Ytmhcbiipbilakaa.Num Go.Proofs.Ytmhcbiipbilakaa.Mem Go.Proofs.Ytmhcbiipbilakaa.Hsh

def I64 (x : Int) : Prop := -9223372036854775808 ≤ x ∧ x ≤ 9223372036854775807
theorem i64_wf {x : Int} (h : (Lit.int .i64 x).wf = true) : I64 x := by have := bounds_i64 h; unfold I64; omega
def orOne (h : Int) : Int := if h = 0 then 1 else h
theorem max_one (zs : List Int) : maxI 1 (hashL zs) = orOne (hashL zs) := by
  have := hashL_bd zs
  unfold maxI orOne
  split <;> split <;> omega
def keyM (k : Int) (zs : List Int) : Int := orOne (hashL (keyed k zs))
def macM (k : Int) (zs : List Int) : Int := hashL (keyed k zs)
theorem macM_i64 (k : Int) (zs : List Int) : I64 (macM k zs) := by have := hashL_bd (keyed k zs); unfold macM I64; omega
theorem keyM_i64 (k : Int) (zs : List Int) : I64 (keyM k zs) := by have := hashL_bd (keyed k zs); unfold keyM orOne I64; split <;> omega
theorem wf2 {a b : Int} (ha : I64 a) (hb : I64 b) : ∀ z ∈ ([a, b] : List Int), -9223372036854775808 ≤ z ∧ z ≤ 9223372036854775807 := by
  intro z hz
  simp only [List.mem_cons, List.not_mem_nil, or_false] at hz
  rcases hz with rfl | rfl <;> assumption
theorem wf3 {a b c : Int} (ha : I64 a) (hb : I64 b) (hc : I64 c) : ∀ z ∈ ([a, b, c] : List Int), -9223372036854775808 ≤ z ∧ z ≤ 9223372036854775807 := by
  intro z hz
  simp only [List.mem_cons, List.not_mem_nil, or_false] at hz
  rcases hz with rfl | rfl | rfl <;> assumption
theorem wf5 {a b c d e : Int} (ha : I64 a) (hb : I64 b) (hc : I64 c) (hd : I64 d) (he : I64 e) : ∀ z ∈ ([a, b, c, d, e] : List Int), -9223372036854775808 ≤ z ∧ z ≤ 9223372036854775807 := by
  intro z hz
  simp only [List.mem_cons, List.not_mem_nil, or_false] at hz
  rcases hz with rfl | rfl | rfl | rfl | rfl <;> assumption
theorem c64 (n : Int) (h : -9223372036854775808 ≤ n ∧ n ≤ 9223372036854775807) : I64 n := h

theorem keyOrOne_any (h : Int) (w : World) : Calls Try.prog 40 #[.int .i64 h] w fun x w' => x = .returned (.int .i64 (orOne h)) ∧ w = w' := by
  unfold orOne
  by_cases h0 : h = 0
  · rw [if_pos h0]
    have h1 : (h == 0) = true := by simpa using h0
    clear h0
    go_enter Try.func40, Try.ntmps40
    go_wp2
    go_ret
    exact ⟨rfl, rfl⟩
  · rw [if_neg h0]
    have h1 : (h == 0) = false := by simpa using h0
    clear h0
    go_enter Try.func40, Try.ntmps40
    go_wp2
    go_ret
    exact ⟨rfl, rfl⟩
set_option maxRecDepth 100000 in
theorem homeKey_impl (k a : Int) (w : World) (hk : I64 k) (ha : I64 a) : Calls Try.prog 14 #[.int .i64 k, .int .i64 a] w fun x w' => x = .returned (.int .i64 (keyM k [51, a])) ∧ Below w.heap.size w w' := by
  have HW := Lib.hid (wf2 (c64 51 (by omega)) ha)
  have HM := Lib.hid (max_one (keyed k [51, a]))
  have H0 := Lib.hid hk
  clear hk ha
  go_enter Try.func14, Try.ntmps14
  go_wp2_with (first
    | (go_at_call 41; refine (keyedHash_impl _ _ 2 2 [51, a] _ (by exact Rd.litAt _ [.int .i64 51, .int .i64 a] _ 2 _ (by simp) rfl (by unfold maxLen; omega)) (by omega) H0.out HW.out).mono ?_; rintro x w1 ⟨rfl, hb⟩; have HB := Lib.hid hb; clear hb)
    | (go_at_call 40; refine (keyOrOne_any _ _).mono ?_; rintro x w' ⟨rfl, rfl⟩)
    | (go_at_call 38; refine (max_spec _ _ _).mono ?_; rintro x w' ⟨rfl, rfl⟩))
  go_ret
  exact ⟨by first | rfl | exact ret_int HM.out, Below.trans (by go_grown) (HB.out.mono (by simp))⟩
set_option maxRecDepth 100000 in
theorem homeKey_spec (k a : Int) (w : World) (hk : I64 k) (ha : I64 a) : Calls Try.prog 13 #[.int .i64 k, .int .i64 a] w fun x w' => x = .returned (.int .i64 (keyM k [51, a])) ∧ Below w.heap.size w w' := by
  have HW := Lib.hid (wf2 (c64 51 (by omega)) ha)
  have HM := Lib.hid (max_one (keyed k [51, a]))
  have H0 := Lib.hid hk
  clear hk ha
  go_enter Try.func13, Try.ntmps13
  go_wp2_with (first
    | (go_at_call 39; refine (keyedHash_spec _ _ 2 2 [51, a] _ (by exact Rd.litAt _ [.int .i64 51, .int .i64 a] _ 2 _ (by simp) rfl (by unfold maxLen; omega)) (by omega) H0.out HW.out).mono ?_; rintro x w1 ⟨rfl, hb⟩; have HB := Lib.hid hb; clear hb)
    | (go_at_call 40; refine (keyOrOne_any _ _).mono ?_; rintro x w' ⟨rfl, rfl⟩)
    | (go_at_call 38; refine (max_spec _ _ _).mono ?_; rintro x w' ⟨rfl, rfl⟩))
  go_ret
  exact ⟨by first | rfl | exact ret_int HM.out, Below.trans (by go_grown) (HB.out.mono (by simp))⟩
set_option maxRecDepth 100000 in
theorem pairKey_impl (k a b : Int) (w : World) (hk : I64 k) (ha : I64 a) (hb : I64 b) : Calls Try.prog 16 #[.int .i64 k, .int .i64 a, .int .i64 b] w fun x w' => x = .returned (.int .i64 (keyM k [41, a, b])) ∧ Below w.heap.size w w' := by
  have HW := Lib.hid (wf3 (c64 41 (by omega)) ha hb)
  have HM := Lib.hid (max_one (keyed k [41, a, b]))
  have H0 := Lib.hid hk
  clear hk ha hb
  go_enter Try.func16, Try.ntmps16
  go_wp2_with (first
    | (go_at_call 41; refine (keyedHash_impl _ _ 3 3 [41, a, b] _ (by exact Rd.litAt _ [.int .i64 41, .int .i64 a, .int .i64 b] _ 3 _ (by simp) rfl (by unfold maxLen; omega)) (by omega) H0.out HW.out).mono ?_; rintro x w1 ⟨rfl, hb⟩; have HB := Lib.hid hb; clear hb)
    | (go_at_call 40; refine (keyOrOne_any _ _).mono ?_; rintro x w' ⟨rfl, rfl⟩)
    | (go_at_call 38; refine (max_spec _ _ _).mono ?_; rintro x w' ⟨rfl, rfl⟩))
  go_ret
  exact ⟨by first | rfl | exact ret_int HM.out, Below.trans (by go_grown) (HB.out.mono (by simp))⟩
set_option maxRecDepth 100000 in
theorem pairKey_spec (k a b : Int) (w : World) (hk : I64 k) (ha : I64 a) (hb : I64 b) : Calls Try.prog 15 #[.int .i64 k, .int .i64 a, .int .i64 b] w fun x w' => x = .returned (.int .i64 (keyM k [41, a, b])) ∧ Below w.heap.size w w' := by
  have HW := Lib.hid (wf3 (c64 41 (by omega)) ha hb)
  have HM := Lib.hid (max_one (keyed k [41, a, b]))
  have H0 := Lib.hid hk
  clear hk ha hb
  go_enter Try.func15, Try.ntmps15
  go_wp2_with (first
    | (go_at_call 39; refine (keyedHash_spec _ _ 3 3 [41, a, b] _ (by exact Rd.litAt _ [.int .i64 41, .int .i64 a, .int .i64 b] _ 3 _ (by simp) rfl (by unfold maxLen; omega)) (by omega) H0.out HW.out).mono ?_; rintro x w1 ⟨rfl, hb⟩; have HB := Lib.hid hb; clear hb)
    | (go_at_call 40; refine (keyOrOne_any _ _).mono ?_; rintro x w' ⟨rfl, rfl⟩)
    | (go_at_call 38; refine (max_spec _ _ _).mono ?_; rintro x w' ⟨rfl, rfl⟩))
  go_ret
  exact ⟨by first | rfl | exact ret_int HM.out, Below.trans (by go_grown) (HB.out.mono (by simp))⟩
set_option maxRecDepth 100000 in
theorem sessKey_impl (k a b : Int) (w : World) (hk : I64 k) (ha : I64 a) (hb : I64 b) : Calls Try.prog 18 #[.int .i64 k, .int .i64 a, .int .i64 b] w fun x w' => x = .returned (.int .i64 (keyM k [61, a, b])) ∧ Below w.heap.size w w' := by
  have HW := Lib.hid (wf3 (c64 61 (by omega)) ha hb)
  have HM := Lib.hid (max_one (keyed k [61, a, b]))
  have H0 := Lib.hid hk
  clear hk ha hb
  go_enter Try.func18, Try.ntmps18
  go_wp2_with (first
    | (go_at_call 41; refine (keyedHash_impl _ _ 3 3 [61, a, b] _ (by exact Rd.litAt _ [.int .i64 61, .int .i64 a, .int .i64 b] _ 3 _ (by simp) rfl (by unfold maxLen; omega)) (by omega) H0.out HW.out).mono ?_; rintro x w1 ⟨rfl, hb⟩; have HB := Lib.hid hb; clear hb)
    | (go_at_call 40; refine (keyOrOne_any _ _).mono ?_; rintro x w' ⟨rfl, rfl⟩)
    | (go_at_call 38; refine (max_spec _ _ _).mono ?_; rintro x w' ⟨rfl, rfl⟩))
  go_ret
  exact ⟨by first | rfl | exact ret_int HM.out, Below.trans (by go_grown) (HB.out.mono (by simp))⟩
set_option maxRecDepth 100000 in
theorem sessKey_spec (k a b : Int) (w : World) (hk : I64 k) (ha : I64 a) (hb : I64 b) : Calls Try.prog 17 #[.int .i64 k, .int .i64 a, .int .i64 b] w fun x w' => x = .returned (.int .i64 (keyM k [61, a, b])) ∧ Below w.heap.size w w' := by
  have HW := Lib.hid (wf3 (c64 61 (by omega)) ha hb)
  have HM := Lib.hid (max_one (keyed k [61, a, b]))
  have H0 := Lib.hid hk
  clear hk ha hb
  go_enter Try.func17, Try.ntmps17
  go_wp2_with (first
    | (go_at_call 39; refine (keyedHash_spec _ _ 3 3 [61, a, b] _ (by exact Rd.litAt _ [.int .i64 61, .int .i64 a, .int .i64 b] _ 3 _ (by simp) rfl (by unfold maxLen; omega)) (by omega) H0.out HW.out).mono ?_; rintro x w1 ⟨rfl, hb⟩; have HB := Lib.hid hb; clear hb)
    | (go_at_call 40; refine (keyOrOne_any _ _).mono ?_; rintro x w' ⟨rfl, rfl⟩)
    | (go_at_call 38; refine (max_spec _ _ _).mono ?_; rintro x w' ⟨rfl, rfl⟩))
  go_ret
  exact ⟨by first | rfl | exact ret_int HM.out, Below.trans (by go_grown) (HB.out.mono (by simp))⟩
end Go.Proofs.Ytmhcbiipbilakaa.Keys
