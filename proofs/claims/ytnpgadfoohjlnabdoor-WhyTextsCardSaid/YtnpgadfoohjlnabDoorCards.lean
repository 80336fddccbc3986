/-
  DERIVED. GIVEN WITH THE SEED: THE CARDS: each row of YtnpgadfoohjlnabDoorRows.lean that lists a variable, with what it lists TIED to the program's text (the seventh form; the later family's looks); each row that meets fmt, with fmt's text TOLD by the authors' own Lean function (tested against real Go, not proved from fmt's source: count such statements apart). THE CARD IS WHAT COUNTS. Prove the row's statement (the work); the ties are given (YtnpgadfoohjlnabDoorTie.lean); close each card by the builder's one call (the guide's Derived/Test/ToyasCard.lean, 'card_holds'). Laid BY PROGRAM, IN A SANDBOX (cutbox-door.mjs). By AI agents, Wed Nov 11 2026. No macro, syntax, notation, axiom, sorry.
-/
import Derived.Test.YtnpgadfoohjlnabDoorRows
import GoSem.ClaimSeven
namespace Go.Proofs.YtnpgadfoohjlnabDoor
namespace Rows

/-- THE TIED CARD OF 'cavillaw13.TreeWhole'. -/
def treeWholeCard : Claim7 := { stood := { row := treeWholeRow, standIns := [], harness := (true, "b8463492d09ccbdcbf49988d94c1d4a233a4ae3cd95ae2b3cef5ba55e3b5bc7c"), looks := true }, kinds := [], alts := [], laidByText := true, laidKinds := [.data, .data, .data], laidTests := true, laidLooks := .later }
def TreeWholeCardSaid : Prop := Claim7.holds Tryd.pinned (.plain (OpenSpec.ofChange treeWholeSpec)) treeWholeCard

/-- THE TIED CARD OF 'cavillaw04.EditApplies'. -/
def editAppliesCard : Claim7 := { stood := { row := editAppliesRow, standIns := [], harness := (true, "b8463492d09ccbdcbf49988d94c1d4a233a4ae3cd95ae2b3cef5ba55e3b5bc7c"), looks := true }, kinds := [], alts := [], laidByText := true, laidKinds := [.handle], laidTests := true, laidLooks := .later }
def EditAppliesCardSaid : Prop := Claim7.holds Tryd.pinned (.plain (OpenSpec.ofChange editAppliesSpec)) editAppliesCard

/-- THE TIED CARD OF 'cavillaw33.WhyTexts'. -/
def whyTextsCard : Claim7 := { stood := { row := whyTextsRow, standIns := [], harness := (true, "b8463492d09ccbdcbf49988d94c1d4a233a4ae3cd95ae2b3cef5ba55e3b5bc7c"), looks := true }, kinds := [], alts := [], laidByText := true, laidKinds := [.data, .data, .data], laidTests := true, laidLooks := .later }
def WhyTextsCardSaid : Prop := Claim7.holds Tryd.pinned (.plain (OpenSpec.ofChange whyTextsSpec)) whyTextsCard

/-- THE TIED CARD OF 'cavillaw33.WhyUnlike'. -/
def whyUnlikeCard : Claim7 := { stood := { row := whyUnlikeRow, standIns := [], harness := (true, "b8463492d09ccbdcbf49988d94c1d4a233a4ae3cd95ae2b3cef5ba55e3b5bc7c"), looks := true }, kinds := [], alts := [], laidByText := true, laidKinds := [.data, .data, .data], laidTests := true, laidLooks := .later }
def WhyUnlikeCardSaid : Prop := Claim7.holds Tryd.pinned (.plain (OpenSpec.ofChange whyUnlikeSpec)) whyUnlikeCard

/-- THE TIED CARD OF 'cavillaw13.TreeTexts'. -/
def treeTextsCard : Claim7 := { stood := { row := treeTextsRow, standIns := [], harness := (true, "b8463492d09ccbdcbf49988d94c1d4a233a4ae3cd95ae2b3cef5ba55e3b5bc7c"), looks := true }, kinds := [], alts := [], laidByText := true, laidKinds := [.data, .data, .data], laidTests := true, laidLooks := .later }
def TreeTextsCardSaid : Prop := Claim7.holds Tryd.pinned (.plain (OpenSpec.ofChange treeTextsSpec)) treeTextsCard

/-- THE TIED CARD OF 'cavillaw33.WhyNotes'. -/
def whyNotesCard : Claim7 := { stood := { row := whyNotesRow, standIns := [], harness := (true, "b8463492d09ccbdcbf49988d94c1d4a233a4ae3cd95ae2b3cef5ba55e3b5bc7c"), looks := true }, kinds := [], alts := [], laidByText := true, laidKinds := [.data, .data, .data], laidTests := true, laidLooks := .later }
def WhyNotesCardSaid : Prop := Claim7.holds Tryd.pinned (.plain (OpenSpec.ofChange whyNotesSpec)) whyNotesCard

/-- THE SECOND FORM's CARD OF 'cavillaw13.TreeWhole'. -/
def treeWholeUptoCard : Claim7 := { stood := { row := treeWholeUptoRow, standIns := [], harness := (true, "b8463492d09ccbdcbf49988d94c1d4a233a4ae3cd95ae2b3cef5ba55e3b5bc7c"), looks := true }, kinds := [], alts := [], laidByText := true, laidKinds := [.data, .data, .data], laidTests := true, laidLooks := .later }
def TreeWholeUptoCardSaid : Prop := Claim7.holds Tryd.pinned (.plain (OpenSpec.upto treeWholeSpec)) treeWholeUptoCard

/-- THE SECOND FORM's CARD OF 'cavillaw04.EditApplies'. -/
def editAppliesUptoCard : Claim7 := { stood := { row := editAppliesUptoRow, standIns := [], harness := (true, "b8463492d09ccbdcbf49988d94c1d4a233a4ae3cd95ae2b3cef5ba55e3b5bc7c"), looks := true }, kinds := [], alts := [], laidByText := true, laidKinds := [.handle], laidTests := true, laidLooks := .later }
def EditAppliesUptoCardSaid : Prop := Claim7.holds Tryd.pinned (.plain (OpenSpec.upto editAppliesSpec)) editAppliesUptoCard

/-- THE SECOND FORM's CARD OF 'cavillaw33.WhyTexts'. -/
def whyTextsUptoCard : Claim7 := { stood := { row := whyTextsUptoRow, standIns := [], harness := (true, "b8463492d09ccbdcbf49988d94c1d4a233a4ae3cd95ae2b3cef5ba55e3b5bc7c"), looks := true }, kinds := [], alts := [], laidByText := true, laidKinds := [.data, .data, .data], laidTests := true, laidLooks := .later }
def WhyTextsUptoCardSaid : Prop := Claim7.holds Tryd.pinned (.plain (OpenSpec.upto whyTextsSpec)) whyTextsUptoCard

/-- THE SECOND FORM's CARD OF 'cavillaw33.WhyUnlike'. -/
def whyUnlikeUptoCard : Claim7 := { stood := { row := whyUnlikeUptoRow, standIns := [], harness := (true, "b8463492d09ccbdcbf49988d94c1d4a233a4ae3cd95ae2b3cef5ba55e3b5bc7c"), looks := true }, kinds := [], alts := [], laidByText := true, laidKinds := [.data, .data, .data], laidTests := true, laidLooks := .later }
def WhyUnlikeUptoCardSaid : Prop := Claim7.holds Tryd.pinned (.plain (OpenSpec.upto whyUnlikeSpec)) whyUnlikeUptoCard

/-- THE SECOND FORM's CARD OF 'cavillaw13.TreeTexts'. -/
def treeTextsUptoCard : Claim7 := { stood := { row := treeTextsUptoRow, standIns := [], harness := (true, "b8463492d09ccbdcbf49988d94c1d4a233a4ae3cd95ae2b3cef5ba55e3b5bc7c"), looks := true }, kinds := [], alts := [], laidByText := true, laidKinds := [.data, .data, .data], laidTests := true, laidLooks := .later }
def TreeTextsUptoCardSaid : Prop := Claim7.holds Tryd.pinned (.plain (OpenSpec.upto treeTextsSpec)) treeTextsUptoCard

/-- THE SECOND FORM's CARD OF 'cavillaw33.WhyNotes'. -/
def whyNotesUptoCard : Claim7 := { stood := { row := whyNotesUptoRow, standIns := [], harness := (true, "b8463492d09ccbdcbf49988d94c1d4a233a4ae3cd95ae2b3cef5ba55e3b5bc7c"), looks := true }, kinds := [], alts := [], laidByText := true, laidKinds := [.data, .data, .data], laidTests := true, laidLooks := .later }
def WhyNotesUptoCardSaid : Prop := Claim7.holds Tryd.pinned (.plain (OpenSpec.upto whyNotesSpec)) whyNotesUptoCard
end Rows
end Go.Proofs.YtnpgadfoohjlnabDoor
