/-
  DERIVED. GIVEN WITH THE SEED: THE CARDS: each row of YtgbmbnofnhhblaaDoorRows.lean that lists a variable, with what it lists TIED to the program's text (the seventh form; the later family's looks); each row that meets fmt, with fmt's text TOLD by the authors' own Lean function (tested against real Go, not proved from fmt's source: count such statements apart). THE CARD IS WHAT COUNTS. Prove the row's statement (the work); the ties are given (YtgbmbnofnhhblaaDoorTie.lean); close each card by the builder's one call (the guide's Derived/Test/ToyasCard.lean, 'card_holds'). Laid BY PROGRAM, IN A SANDBOX (cutbox-door.mjs). By AI agents, Wed Nov 11 2026. No macro, syntax, notation, axiom, sorry.
-/
import Derived.Test.YtgbmbnofnhhblaaDoorRows
import GoSem.ClaimSeven
namespace Go.Proofs.YtgbmbnofnhhblaaDoor
namespace Rows

/-- THE TIED CARD OF 'laws.FnExactProtectFrame'. -/
def fnExactProtectFrameCard : Claim7 := { stood := { row := fnExactProtectFrameRow, standIns := [], harness := (true, "ae125602cba8eec16f40f8340ed79d143b1de9857e505cb190869f9dfdfe5245"), looks := false }, kinds := [], alts := [], laidByText := true, laidKinds := [.data, .data, .data], laidTests := true, laidLooks := .later }
def FnExactProtectFrameCardSaid : Prop := Claim7.holds Tryd.pinned (.plain (OpenSpec.ofChange fnExactProtectFrameSpec)) fnExactProtectFrameCard

/-- THE TIED CARD OF 'laws.FnProtectedFrames'. -/
def fnProtectedFramesCard : Claim7 := { stood := { row := fnProtectedFramesRow, standIns := [], harness := (true, "ae125602cba8eec16f40f8340ed79d143b1de9857e505cb190869f9dfdfe5245"), looks := false }, kinds := [], alts := [], laidByText := true, laidKinds := [.data, .data, .data], laidTests := true, laidLooks := .later }
def FnProtectedFramesCardSaid : Prop := Claim7.holds Tryd.pinned (.plain (OpenSpec.ofChange fnProtectedFramesSpec)) fnProtectedFramesCard

/-- THE TIED CARD OF 'laws.FnNonces'. -/
def fnNoncesCard : Claim7 := { stood := { row := fnNoncesRow, standIns := [], harness := (true, "ae125602cba8eec16f40f8340ed79d143b1de9857e505cb190869f9dfdfe5245"), looks := false }, kinds := [], alts := [], laidByText := true, laidKinds := [.data, .data, .data], laidTests := true, laidLooks := .later }
def FnNoncesCardSaid : Prop := Claim7.holds Tryd.pinned (.plain (OpenSpec.ofChange fnNoncesSpec)) fnNoncesCard

/-- THE SECOND FORM's CARD OF 'laws.FnExactProtectFrame'. -/
def fnExactProtectFrameUptoCard : Claim7 := { stood := { row := fnExactProtectFrameUptoRow, standIns := [], harness := (true, "ae125602cba8eec16f40f8340ed79d143b1de9857e505cb190869f9dfdfe5245"), looks := false }, kinds := [], alts := [], laidByText := true, laidKinds := [.data, .data, .data], laidTests := true, laidLooks := .later }
def FnExactProtectFrameUptoCardSaid : Prop := Claim7.holds Tryd.pinned (.plain (OpenSpec.upto fnExactProtectFrameSpec)) fnExactProtectFrameUptoCard

/-- THE SECOND FORM's CARD OF 'laws.FnProtectedFrames'. -/
def fnProtectedFramesUptoCard : Claim7 := { stood := { row := fnProtectedFramesUptoRow, standIns := [], harness := (true, "ae125602cba8eec16f40f8340ed79d143b1de9857e505cb190869f9dfdfe5245"), looks := false }, kinds := [], alts := [], laidByText := true, laidKinds := [.data, .data, .data], laidTests := true, laidLooks := .later }
def FnProtectedFramesUptoCardSaid : Prop := Claim7.holds Tryd.pinned (.plain (OpenSpec.upto fnProtectedFramesSpec)) fnProtectedFramesUptoCard

/-- THE SECOND FORM's CARD OF 'laws.FnNonces'. -/
def fnNoncesUptoCard : Claim7 := { stood := { row := fnNoncesUptoRow, standIns := [], harness := (true, "ae125602cba8eec16f40f8340ed79d143b1de9857e505cb190869f9dfdfe5245"), looks := false }, kinds := [], alts := [], laidByText := true, laidKinds := [.data, .data, .data], laidTests := true, laidLooks := .later }
def FnNoncesUptoCardSaid : Prop := Claim7.holds Tryd.pinned (.plain (OpenSpec.upto fnNoncesSpec)) fnNoncesUptoCard
end Rows
end Go.Proofs.YtgbmbnofnhhblaaDoor
