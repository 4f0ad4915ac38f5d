/- Contracts of PasswordElement. -/
import Derived.Test.YtgbmbnofnhhblaaDoorBytes
import Derived.Test.YtgbmbnofnhhblaaDoorGroupWords
import Derived.Laws.IdiomStrings
namespace Go.Proofs.YtgbmbnofnhhblaaDoor.Pass
open Go.RowKit
open Go.Proofs.YtgbmbnofnhhblaaDoor.Num Go.Proofs.YtgbmbnofnhhblaaDoor.Mem Go.Proofs.YtgbmbnofnhhblaaDoor.Hsh Go.Proofs.YtgbmbnofnhhblaaDoor.Grp

/-- a string's bytes as numbers -/
def sBytes (s : ByteArray) : List Int := s.data.toList.map (fun b => (b.toNat : Int))
theorem sBytes_len (s : ByteArray) : (sBytes s).length = s.size := by simp [sBytes]
theorem sBytes_all (s : ByteArray) : AllBytes (sBytes s) := by
  intro z hz
  obtain ⟨b, _, rfl⟩ := List.mem_map.1 hz
  have := b.toNat_lt
  omega
/-- '[]byte(s)': a new block that reads as the string's bytes -/
theorem bytes_conv (w : World) (s : ByteArray) (hs : s.size ≤ 2097152) : ∃ (cap : Nat) (o : Obj), (convert 9 25 (.string s)).run Tryd.prog w = .ok (.slice (some ⟨w.heap.size, 0, none⟩) s.size cap) (w.drew.alloc o) ∧
    Rd (w.drew.alloc o) 1 (some ⟨w.heap.size, 0, none⟩) s.size cap ((sBytes s).map (Value.int .u8)) := by
  refine ⟨_, _, run_bytes_of_string (P := Tryd.prog) w 9 25 5 s Tryd.underlying9 Tryd.underlying25 Tryd.underlying5, ?_⟩
  have h1 := grownCap_ge w s.size 0 5
  have h2 := grownCap_le_maxLen w s.size 0 5 (by unfold maxLen; omega)
  generalize grownCap w s.size 0 5 = cap at h1 h2
  refine ⟨by rw [List.length_map, sBytes_len]; omega, h1, h2, (fun e => by cases e), fun _ => ⟨_, _, rfl, fun j hj => ?_⟩⟩
  rw [List.length_map, sBytes_len] at hj
  rw [Nat.zero_add]
  have hg : (w.drew.alloc (.cells (bytesRow s cap) 5 ((bytesRow s cap).size, (bytesRow s cap).size + 1))).heap[w.heap.size]? = some (.cells (bytesRow s cap) 5 ((bytesRow s cap).size, (bytesRow s cap).size + 1)) := heap_alloc_new w.drew _
  rw [cell_of_row _ _ j _ _ _ hg]
  unfold bytesRow sBytes
  have hsz : j < s.data.size := hj
  rw [Array.getElem?_append_left (by simpa using hsz)]
  simp only [Array.getElem?_map, List.getElem?_map, List.map_map, Array.getElem?_toList]
  rfl

def passE (h : Int) : Int := (h * h % 2147483647 % 2039) * (h * h % 2147483647 % 2039) % 2039
/-- the first good element of n tries from number k on, 4 if there is none -/
def passGo (vals : List Int) : Nat → Int → Int
  | 0, _ => 4
  | n + 1, k => if 1 < passE (hashL (keyed k vals)) then passE (hashL (keyed k vals)) else passGo vals n (k + 1)
def passVals (s : ByteArray) (a b : Int) : List Int := bytesNums (sBytes s) ++ [maxI a b, minI a b]
/-- the element of a password and two stations -/
def passM (s : ByteArray) (a b : Int) : Int := if 16 < s.size then 0 else passGo (passVals s a b) 40 1
theorem sq_bd {h k : Int} (h0 : 0 ≤ h) (h1 : h ≤ k) : 0 ≤ h * h ∧ h * h ≤ k * k := ⟨Int.mul_nonneg h0 h0, Int.mul_le_mul h1 h1 h0 (by omega)⟩
theorem max_in {a b : Int} (ha : -9223372036854775808 ≤ a ∧ a ≤ 9223372036854775807) (hb : -9223372036854775808 ≤ b ∧ b ≤ 9223372036854775807) : -9223372036854775808 ≤ maxI a b ∧ maxI a b ≤ 9223372036854775807 := by unfold maxI; split <;> omega
theorem min_in {a b : Int} (ha : -9223372036854775808 ≤ a ∧ a ≤ 9223372036854775807) (hb : -9223372036854775808 ≤ b ∧ b ≤ 9223372036854775807) : -9223372036854775808 ≤ minI a b ∧ minI a b ≤ 9223372036854775807 := by unfold minI; split <;> omega
theorem vals_wf {s : ByteArray} {a b : Int} (hs : s.size ≤ 16) (ha : -9223372036854775808 ≤ a ∧ a ≤ 9223372036854775807) (hb : -9223372036854775808 ≤ b ∧ b ≤ 9223372036854775807) : ∀ z ∈ passVals s a b, -9223372036854775808 ≤ z ∧ z ≤ 9223372036854775807 := by
  intro z hz
  simp only [passVals, bytesNums, List.mem_append, List.mem_cons, List.not_mem_nil, or_false] at hz
  rcases hz with (rfl | h) | rfl | rfl
  · rw [sBytes_len]; omega
  · have := sBytes_all s z h; omega
  · exact max_in ha hb
  · exact min_in ha hb
theorem vals_map (s : ByteArray) (a b : Int) : (passVals s a b).map (Value.int .i64) = (bytesNums (sBytes s)).map (Value.int .i64) ++ [.int .i64 (maxI a b), .int .i64 (minI a b)] := by simp [passVals]

/-- what the tries' loop keeps -/
def PassRel (vals : List Int) (R : Int) (j : Nat) : Prop := j ≤ 40 ∧ passGo vals (40 - j) ((j : Int) + 1) = R
theorem PassRel.start (vals : List Int) : PassRel vals (passGo vals 40 1) 0 := ⟨by omega, rfl⟩
theorem PassRel.hit {vals : List Int} {R : Int} {j : Nat} (h : PassRel vals R j) (hj : j < 40) {x : Int} (hx : passE (hashL (keyed ((j : Int) + 1) vals)) = x) (h1 : 1 < x) : x = R := by
  have h2 := h.2
  rw [show 40 - j = (39 - j) + 1 by omega, passGo, hx, if_pos h1] at h2
  exact h2
theorem PassRel.next {vals : List Int} {R : Int} {j : Nat} (h : PassRel vals R j) (hj : j < 40) {x : Int} (hx : passE (hashL (keyed ((j : Int) + 1) vals)) = x) (h1 : ¬ 1 < x) : PassRel vals R (j + 1) := by
  have h2 := h.2
  rw [show 40 - j = (39 - j) + 1 by omega, passGo, hx, if_neg h1] at h2
  refine ⟨by omega, ?_⟩
  rw [show 40 - (j + 1) = 39 - j by omega]
  exact h2
theorem PassRel.done {vals : List Int} {R : Int} {j : Nat} (h : PassRel vals R j) (hj : ¬ j < 40) : 4 = R := by
  have h2 := h.2
  rw [show 40 - j = 0 by omega, passGo] at h2
  exact h2

end Go.Proofs.YtgbmbnofnhhblaaDoor.Pass
