/- The library's decimal numeral of a number, laid at this program; what it leaves of memory. -/
import Derived.Test.YtgbmbnofnhhblaaDoorRows
import Derived.Test.YtgbmbnofnhhblaaDoorMem
import Derived.Shelf.Strconv.Itoa3
import Derived.Shelf.Lay
import Derived.Ground.NamesProg
namespace Go.Proofs
open Go.Shelf
shelf_lay LaysM.n171 Nm 171 at Tryd as Tryd.lays171
end Go.Proofs
namespace Go.Proofs.YtgbmbnofnhhblaaDoor.Itoa
open Go.RowKit
open Go.Proofs.YtgbmbnofnhhblaaDoor.Mem
theorem below_grow (w : World) (k : Nat) (os : Array Obj) : Below w.heap.size w (Sort.grow (w.drewN k) os) := by
  refine ⟨rfl, rfl, rfl, by simp [Sort.grow, World.drewN], fun g hg => ?_⟩
  simp only [Sort.grow, World.drewN]
  rw [Array.getElem?_append_left hg]
theorem itoa_any (n : Int) (h0 : -9223372036854775808 ≤ n) (h1 : n ≤ 9223372036854775807) (w : World) (htab : Lib.TabIs Tryd.prog w "internal/strconv.uint64pow10" .u64 Lib.pow10Tab) :
    Calls Tryd.prog 74 #[.int .i64 n] w fun e w' => e = .returned (.string ⟨(Lib.itoa n).toArray⟩) ∧ Below w.heap.size w w' :=
  (Any.strconv_Itoa Tryd.lays171 n h0 h1 w htab).mono fun e w' ⟨h, k, os, hw⟩ => ⟨h, by rw [hw]; exact below_grow w k os⟩
end Go.Proofs.YtgbmbnofnhhblaaDoor.Itoa
