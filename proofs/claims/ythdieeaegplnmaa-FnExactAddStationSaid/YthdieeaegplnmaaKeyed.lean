/- Contracts of the keyed hash, and of bytes as numbers. -/
import Derived.Test.YthdieeaegplnmaaHash
namespace Go.Proofs.Ythdieeaegplnmaa.Hsh
open Go.RowKit
open Go.Proofs.Ythdieeaegplnmaa.Num Go.Proofs.Ythdieeaegplnmaa.Mem

theorem intInfo : (Try.prog.info? 3).map (fun i => (i.zero, i.size, i.bytes)) = some (some (.int .i64 0), 1, 8) := by kernel_rfl

/-- the numbers that a key's hash takes in -/
def keyed (key : Int) (zs : List Int) : List Int := key :: (zs ++ [key])
theorem keyed_map (key : Int) (zs : List Int) : (keyed key zs).map (Value.int .i64) = .int .i64 key :: (zs.map (Value.int .i64) ++ [.int .i64 key]) := by simp [keyed]
theorem keyed_wf {key : Int} {zs : List Int} (hk : -9223372036854775808 ≤ key ∧ key ≤ 9223372036854775807) (hw : ∀ z ∈ zs, -9223372036854775808 ≤ z ∧ z ≤ 9223372036854775807) :
    ∀ z ∈ keyed key zs, -9223372036854775808 ≤ z ∧ z ≤ 9223372036854775807 := by
  intro z hz
  simp only [keyed, List.mem_cons, List.mem_append, List.not_mem_nil, or_false] at hz
  rcases hz with rfl | h | rfl
  · exact hk
  · exact hw z h
  · exact hk

end Go.Proofs.Ythdieeaegplnmaa.Hsh
