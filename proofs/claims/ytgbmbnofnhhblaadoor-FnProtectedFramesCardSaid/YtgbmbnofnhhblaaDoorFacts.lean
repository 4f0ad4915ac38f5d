/- The closed facts of the program as a whole, each once, so that no law has to reckon them anew; and the two facts on a law's own function that every law's proof asks. -/
import Derived.Test.YtgbmbnofnhhblaaDoorRows
import Derived.JoinedOf
import Derived.KernelRfl
namespace Go.Proofs.YtgbmbnofnhhblaaDoor.Facts
/-- the signs of the translation's head -/
def headSigns : List Char := [104, 97, 114, 110, 101, 115, 115, 32, 97, 101, 49, 50, 53, 54, 48, 50, 99, 98, 97, 56, 101, 101, 99, 49, 54, 102, 52, 48, 102, 56, 51, 52, 48, 101, 100, 55, 57, 100, 49, 52, 51, 98, 49, 100, 101, 57, 56, 53, 55, 101, 53, 48, 53, 99, 98, 49, 57, 48, 56, 54, 57, 102, 57, 100, 102, 100, 102, 101, 53, 50, 52, 53, 32, 99, 117, 116, 32, 97, 116, 32, 108, 111, 111, 112, 46, 101, 120, 97, 109, 112, 108, 101, 47, 103, 48, 48, 53, 49, 49, 47, 108, 97, 119, 115, 46, 70, 110, 69, 120, 97, 99, 116, 80, 114, 111, 116, 101, 99, 116, 70, 114, 97, 109, 101, 32, 108, 111, 111, 112, 46, 101, 120, 97, 109, 112, 108, 101, 47, 103, 48, 48, 53, 49, 49, 47, 108, 97, 119, 115, 46, 70, 110, 80, 114, 111, 116, 101, 99, 116, 101, 100, 70, 114, 97, 109, 101, 115, 32, 108, 111, 111, 112, 46, 101, 120, 97, 109, 112, 108, 101, 47, 103, 48, 48, 53, 49, 49, 47, 108, 97, 119, 115, 46, 70, 110, 78, 111, 110, 99, 101, 115].map Char.ofNat
theorem headOf : Tryd.prog.initOrder = String.ofList headSigns := by kernel_rfl
theorem headList : Tryd.prog.initOrder.toList = headSigns := by rw [headOf, String.toList_ofList]
theorem headLifts_of (P : Program) (L : List Char) (h : P.initOrder.toList = L) (r : List String × List (List Char)) (hr : stripLifts liftWords (behindMainWord (wordsSigns L)) = r) (h1 : r.1 = []) : P.headLifts = [] := by
  unfold Program.headLifts
  rw [h, hr]
  simp [h1]
theorem mayEnter_of (P : Program) (L : List Char) (h : P.initOrder.toList = L) (c : List Char) (rest : List (List Char)) (hc : behindMainWord (wordsSigns L) = c :: rest) (r : List String × List (List Char)) (hr : stripLifts liftWords (c :: rest) = r)
    (h1 : (r.2.head? == some "cut".toList) = true) (h2 : r.1 = []) (hl : P.laysLater = false) (hb : P.bearsReflect = false) (hd : P.doorFits [] = true) : P.mayEnter = true := by
  unfold Program.mayEnter
  rw [h, hc]
  simp only [hr, h1, h2, hl, hb, hd, List.contains_nil, Bool.not_false, Bool.or_true, Bool.and_true]
theorem liftsFinal_of (P : Program) (L : List Char) (h : P.initOrder.toList = L) (ws : List (List Char)) (hw : behindMainWord (wordsSigns L) = ws) (h1 : (ws.head? == some "carried".toList) = false) (h2 : P.headLifts = []) : P.liftsFinal = false := by
  unfold Program.liftsFinal
  simp only [h, hw, h2, h1, Bool.false_and, List.contains_nil, Bool.false_or]
theorem make_of (P : Program) (L : List Char) (h : P.initOrder.toList = L) (c : List Char) (rest : List (List Char)) (hc : behindMainWord (wordsSigns L) = c :: rest) (h1 : (c == "gc".toList || c == "spec".toList) = false) (h2 : (c == "cut".toList) = true) : P.make = some .cut := by
  unfold Program.make
  simp only [h, hc, h1, h2, Bool.false_eq_true, if_false, Bool.true_or, if_true]
/-- the head's words behind its first two -/
def words : List (List Char) := behindMainWord (wordsSigns headSigns)
theorem words_cons : words = words.head! :: words.tail := by kernel_rfl
theorem stripped : (stripLifts liftWords words).1 = [] := by kernel_rfl
theorem headLifts : Tryd.prog.headLifts = [] := headLifts_of _ _ headList _ rfl stripped
theorem mayEnter : Tryd.prog.mayEnter = true := mayEnter_of _ _ headList words.head! words.tail words_cons _ rfl (by kernel_rfl) (by kernel_rfl) (by kernel_rfl) (by kernel_rfl) (by kernel_rfl)
theorem liftsFinal : Tryd.prog.liftsFinal = false := liftsFinal_of _ _ headList words rfl (by kernel_rfl) headLifts
theorem make : Tryd.prog.make = some .cut := make_of _ _ headList words.head! words.tail words_cons (by kernel_rfl) (by kernel_rfl)
theorem plainKeys : Tryd.prog.plainKeys = true := by kernel_rfl
theorem stopsHeard : Tryd.prog.stopsHeard = true := by kernel_rfl
theorem laidOut : laidOutB Tryd.prog = true := by kernel_rfl
theorem mapsRowed : mapsRowed Tryd.prog = true := by kernel_rfl
theorem stops : Tryd.prog.stops = [] := by kernel_rfl
theorem stopKnobs : Tryd.prog.stopKnobs = [] := by kernel_rfl
theorem own : ownKnob Tryd.prog.godebug = none := by kernel_rfl
theorem both {a b : Bool} (ha : a = true) (hb : b = true) : (a && b) = true := by rw [ha, hb]; rfl
end Go.Proofs.YtgbmbnofnhhblaaDoor.Facts
