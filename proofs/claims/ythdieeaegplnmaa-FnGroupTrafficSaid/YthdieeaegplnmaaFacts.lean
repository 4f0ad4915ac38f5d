/- The closed facts of the program as a whole, each once, so that no law has to reckon them anew; and the two facts on a law's own function that every law's proof asks. -/
import Derived.Test.YthdieeaegplnmaaRows
import Derived.JoinedOf
import Derived.KernelRfl
namespace Go.Proofs.Ythdieeaegplnmaa.Facts
/-- the signs of the translation's head -/
def headSigns : List Char := [104, 97, 114, 110, 101, 115, 115, 32, 50, 52, 51, 100, 100, 53, 99, 102, 100, 52, 57, 101, 53, 98, 100, 99, 52, 102, 53, 97, 98, 52, 48, 100, 55, 100, 102, 101, 56, 99, 55, 51, 102, 102, 54, 98, 48, 53, 53, 98, 51, 57, 57, 55, 51, 51, 51, 53, 99, 97, 98, 53, 97, 48, 53, 101, 56, 98, 53, 54, 100, 50, 98, 98, 32, 99, 117, 116, 32, 97, 116, 32, 108, 111, 111, 112, 46, 101, 120, 97, 109, 112, 108, 101, 47, 103, 48, 48, 53, 49, 49, 47, 108, 97, 119, 115, 46, 70, 110, 69, 120, 97, 99, 116, 75, 101, 101, 112, 71, 114, 111, 117, 112, 70, 114, 97, 109, 101, 32, 108, 111, 111, 112, 46, 101, 120, 97, 109, 112, 108, 101, 47, 103, 48, 48, 53, 49, 49, 47, 108, 97, 119, 115, 46, 70, 110, 71, 114, 111, 117, 112, 84, 114, 97, 102, 102, 105, 99, 32, 108, 111, 111, 112, 46, 101, 120, 97, 109, 112, 108, 101, 47, 103, 48, 48, 53, 49, 49, 47, 108, 97, 119, 115, 46, 70, 110, 69, 120, 97, 99, 116, 77, 97, 107, 101, 66, 101, 97, 99, 111, 110, 32, 108, 111, 111, 112, 46, 101, 120, 97, 109, 112, 108, 101, 47, 103, 48, 48, 53, 49, 49, 47, 108, 97, 119, 115, 46, 70, 110, 69, 120, 97, 99, 116, 65, 100, 100, 83, 116, 97, 116, 105, 111, 110, 32, 108, 111, 111, 112, 46, 101, 120, 97, 109, 112, 108, 101, 47, 103, 48, 48, 53, 49, 49, 47, 108, 97, 119, 115, 46, 70, 110, 75, 101, 112, 116, 84, 114, 97, 102, 102, 105, 99, 32, 108, 111, 111, 112, 46, 101, 120, 97, 109, 112, 108, 101, 47, 103, 48, 48, 53, 49, 49, 47, 108, 97, 119, 115, 46, 70, 110, 78, 111, 116, 104, 105, 110, 103, 77, 105, 115, 115, 101, 100].map Char.ofNat
theorem headOf : Try.prog.initOrder = String.ofList headSigns := by kernel_rfl
theorem headList : Try.prog.initOrder.toList = headSigns := by rw [headOf, String.toList_ofList]
theorem headLifts_of (P : Program) (L : List Char) (h : P.initOrder.toList = L) (r : List String × List (List Char)) (hr : stripLifts liftWords (behindMainWord (wordsSigns L)) = r) (h1 : r.1 = []) : P.headLifts = [] := by
  unfold Program.headLifts
  rw [h, hr]
  simp [h1]
theorem mayEnter_of (P : Program) (L : List Char) (h : P.initOrder.toList = L) (c : List Char) (rest : List (List Char)) (hc : behindMainWord (wordsSigns L) = c :: rest) (r : List String × List (List Char)) (hr : stripLifts liftWords (c :: rest) = r)
    (h1 : (r.2.head? == some "cut".toList) = true) (h2 : r.1 = []) (hl : P.laysLater = false) (hb : P.bearsReflect = false) (hd : P.doorFits [] = true) : P.mayEnter = true := by
  unfold Program.mayEnter
  rw [h, hc]
  simp only [hr, h1, h2, hl, hb, hd, List.contains_nil, Bool.not_false, Bool.or_true, Bool.and_true]
theorem liftsFinal_of (P : Program) (L : List Char) (h : P.initOrder.toList = L) (ws : List (List Char)) (hw : behindMainWord (wordsSigns L) = ws) (h1 : (ws.head? == some "carried".toList) = false) (h2 : P.headLifts = []) : P.liftsFinal = false := by
  unfold Program.liftsFinal
  simp only [h, hw, h2, h1, Bool.false_and, List.contains_nil, Bool.false_or]
theorem make_of (P : Program) (L : List Char) (h : P.initOrder.toList = L) (c : List Char) (rest : List (List Char)) (hc : behindMainWord (wordsSigns L) = c :: rest) (h1 : (c == "gc".toList || c == "spec".toList) = false) (h2 : (c == "cut".toList) = true) : P.make = some .cut := by
  unfold Program.make
  simp only [h, hc, h1, h2, Bool.false_eq_true, if_false, Bool.true_or, if_true]
/-- the head's words behind its first two -/
def words : List (List Char) := behindMainWord (wordsSigns headSigns)
theorem words_cons : words = words.head! :: words.tail := by kernel_rfl
theorem stripped : (stripLifts liftWords words).1 = [] := by kernel_rfl
theorem headLifts : Try.prog.headLifts = [] := headLifts_of _ _ headList _ rfl stripped
theorem mayEnter : Try.prog.mayEnter = true := mayEnter_of _ _ headList words.head! words.tail words_cons _ rfl (by kernel_rfl) (by kernel_rfl) (by kernel_rfl) (by kernel_rfl) (by kernel_rfl)
theorem liftsFinal : Try.prog.liftsFinal = false := liftsFinal_of _ _ headList words rfl (by kernel_rfl) headLifts
theorem make : Try.prog.make = some .cut := make_of _ _ headList words.head! words.tail words_cons (by kernel_rfl) (by kernel_rfl)
theorem plainKeys : Try.prog.plainKeys = true := by kernel_rfl
theorem stopsHeard : Try.prog.stopsHeard = true := by kernel_rfl
theorem laidOut : laidOutB Try.prog = true := by kernel_rfl
theorem mapsRowed : mapsRowed Try.prog = true := by kernel_rfl
theorem stops : Try.prog.stops = [] := by kernel_rfl
theorem stopKnobs : Try.prog.stopKnobs = [] := by kernel_rfl
theorem own : ownKnob Try.prog.godebug = none := by kernel_rfl
theorem both {a b : Bool} (ha : a = true) (hb : b = true) : (a && b) = true := by rw [ha, hb]; rfl
end Go.Proofs.Ythdieeaegplnmaa.Facts
