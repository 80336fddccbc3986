/-
  DERIVED. GIVEN WITH THE SEED: THE CARDS: each row of YtnpgadfoohjlnaaDoorRows.lean that lists a variable, with what it lists TIED to the program's text (the seventh form; the later family's looks); each row that meets fmt, with fmt's text TOLD by the authors' own Lean function (tested against real Go, not proved from fmt's source: count such statements apart). THE CARD IS WHAT COUNTS. Prove the row's statement (the work); the ties are given (YtnpgadfoohjlnaaDoorTie.lean); close each card by the builder's one call (the guide's Derived/Test/ToyasCard.lean, 'card_holds'). Laid BY PROGRAM, IN A SANDBOX (cutbox-door.mjs). By AI agents, Wed Nov 11 2026. No macro, syntax, notation, axiom, sorry.
-/
import Derived.Test.YtnpgadfoohjlnaaDoorRows
import GoSem.ClaimSeven
namespace Go.Proofs.YtnpgadfoohjlnaaDoor
namespace Rows

/-- THE TIED CARD OF 'cavillaw13.TreeChecks'. -/
def treeChecksCard : Claim7 := { stood := { row := treeChecksRow, standIns := [], harness := (true, "51722cd6523613e3e657431a994d93c6fac083b71d439e7272bc160adb16c375"), looks := true }, kinds := [], alts := [], laidByText := true, laidKinds := [.data, .data, .data, .handle], laidTests := true, laidLooks := .later }
def TreeChecksCardSaid : Prop := Claim7.holds Tryd.pinned (.plain (OpenSpec.ofChange treeChecksSpec)) treeChecksCard

/-- THE TIED CARD OF 'cavillaw13.TreeLooks'. -/
def treeLooksCard : Claim7 := { stood := { row := treeLooksRow, standIns := [], harness := (true, "51722cd6523613e3e657431a994d93c6fac083b71d439e7272bc160adb16c375"), looks := true }, kinds := [], alts := [], laidByText := true, laidKinds := [.data, .data, .data, .handle], laidTests := true, laidLooks := .later }
def TreeLooksCardSaid : Prop := Claim7.holds Tryd.pinned (.plain (OpenSpec.ofChange treeLooksSpec)) treeLooksCard

/-- THE TIED CARD OF 'cavillaw01.UtfDecodes'. -/
def utfDecodesCard : Claim7 := { stood := { row := utfDecodesRow, standIns := [], harness := (true, "51722cd6523613e3e657431a994d93c6fac083b71d439e7272bc160adb16c375"), looks := true }, kinds := [], alts := [], laidByText := true, laidKinds := [.handle], laidTests := true, laidLooks := .later }
def UtfDecodesCardSaid : Prop := Claim7.holds Tryd.pinned (.plain (OpenSpec.ofChange utfDecodesSpec)) utfDecodesCard

/-- THE TIED CARD OF 'cavillaw01.UtfBack'. -/
def utfBackCard : Claim7 := { stood := { row := utfBackRow, standIns := [], harness := (true, "51722cd6523613e3e657431a994d93c6fac083b71d439e7272bc160adb16c375"), looks := true }, kinds := [], alts := [], laidByText := true, laidKinds := [.handle], laidTests := true, laidLooks := .later }
def UtfBackCardSaid : Prop := Claim7.holds Tryd.pinned (.plain (OpenSpec.ofChange utfBackSpec)) utfBackCard

/-- THE TIED CARD OF 'cavillaw01.UtfChecks'. -/
def utfChecksCard : Claim7 := { stood := { row := utfChecksRow, standIns := [], harness := (true, "51722cd6523613e3e657431a994d93c6fac083b71d439e7272bc160adb16c375"), looks := true }, kinds := [], alts := [], laidByText := true, laidKinds := [.handle], laidTests := true, laidLooks := .later }
def UtfChecksCardSaid : Prop := Claim7.holds Tryd.pinned (.plain (OpenSpec.ofChange utfChecksSpec)) utfChecksCard

/-- THE TIED CARD OF 'cavillaw01.UtfWalks'. -/
def utfWalksCard : Claim7 := { stood := { row := utfWalksRow, standIns := [], harness := (true, "51722cd6523613e3e657431a994d93c6fac083b71d439e7272bc160adb16c375"), looks := true }, kinds := [], alts := [], laidByText := true, laidKinds := [.handle], laidTests := true, laidLooks := .later }
def UtfWalksCardSaid : Prop := Claim7.holds Tryd.pinned (.plain (OpenSpec.ofChange utfWalksSpec)) utfWalksCard

/-- THE TIED CARD OF 'cavillaw15.ViewNodes'. -/
def viewNodesCard : Claim7 := { stood := { row := viewNodesRow, standIns := [], harness := (true, "51722cd6523613e3e657431a994d93c6fac083b71d439e7272bc160adb16c375"), looks := true }, kinds := [], alts := [], laidByText := true, laidKinds := [.handle], laidTests := true, laidLooks := .later }
def ViewNodesCardSaid : Prop := Claim7.holds Tryd.pinned (.plain (OpenSpec.ofChange viewNodesSpec)) viewNodesCard

/-- THE SECOND FORM's CARD OF 'cavillaw13.TreeChecks'. -/
def treeChecksUptoCard : Claim7 := { stood := { row := treeChecksUptoRow, standIns := [], harness := (true, "51722cd6523613e3e657431a994d93c6fac083b71d439e7272bc160adb16c375"), looks := true }, kinds := [], alts := [], laidByText := true, laidKinds := [.data, .data, .data, .handle], laidTests := true, laidLooks := .later }
def TreeChecksUptoCardSaid : Prop := Claim7.holds Tryd.pinned (.plain (OpenSpec.upto treeChecksSpec)) treeChecksUptoCard

/-- THE SECOND FORM's CARD OF 'cavillaw13.TreeLooks'. -/
def treeLooksUptoCard : Claim7 := { stood := { row := treeLooksUptoRow, standIns := [], harness := (true, "51722cd6523613e3e657431a994d93c6fac083b71d439e7272bc160adb16c375"), looks := true }, kinds := [], alts := [], laidByText := true, laidKinds := [.data, .data, .data, .handle], laidTests := true, laidLooks := .later }
def TreeLooksUptoCardSaid : Prop := Claim7.holds Tryd.pinned (.plain (OpenSpec.upto treeLooksSpec)) treeLooksUptoCard

/-- THE SECOND FORM's CARD OF 'cavillaw01.UtfDecodes'. -/
def utfDecodesUptoCard : Claim7 := { stood := { row := utfDecodesUptoRow, standIns := [], harness := (true, "51722cd6523613e3e657431a994d93c6fac083b71d439e7272bc160adb16c375"), looks := true }, kinds := [], alts := [], laidByText := true, laidKinds := [.handle], laidTests := true, laidLooks := .later }
def UtfDecodesUptoCardSaid : Prop := Claim7.holds Tryd.pinned (.plain (OpenSpec.upto utfDecodesSpec)) utfDecodesUptoCard

/-- THE SECOND FORM's CARD OF 'cavillaw01.UtfBack'. -/
def utfBackUptoCard : Claim7 := { stood := { row := utfBackUptoRow, standIns := [], harness := (true, "51722cd6523613e3e657431a994d93c6fac083b71d439e7272bc160adb16c375"), looks := true }, kinds := [], alts := [], laidByText := true, laidKinds := [.handle], laidTests := true, laidLooks := .later }
def UtfBackUptoCardSaid : Prop := Claim7.holds Tryd.pinned (.plain (OpenSpec.upto utfBackSpec)) utfBackUptoCard

/-- THE SECOND FORM's CARD OF 'cavillaw01.UtfChecks'. -/
def utfChecksUptoCard : Claim7 := { stood := { row := utfChecksUptoRow, standIns := [], harness := (true, "51722cd6523613e3e657431a994d93c6fac083b71d439e7272bc160adb16c375"), looks := true }, kinds := [], alts := [], laidByText := true, laidKinds := [.handle], laidTests := true, laidLooks := .later }
def UtfChecksUptoCardSaid : Prop := Claim7.holds Tryd.pinned (.plain (OpenSpec.upto utfChecksSpec)) utfChecksUptoCard

/-- THE SECOND FORM's CARD OF 'cavillaw01.UtfWalks'. -/
def utfWalksUptoCard : Claim7 := { stood := { row := utfWalksUptoRow, standIns := [], harness := (true, "51722cd6523613e3e657431a994d93c6fac083b71d439e7272bc160adb16c375"), looks := true }, kinds := [], alts := [], laidByText := true, laidKinds := [.handle], laidTests := true, laidLooks := .later }
def UtfWalksUptoCardSaid : Prop := Claim7.holds Tryd.pinned (.plain (OpenSpec.upto utfWalksSpec)) utfWalksUptoCard

/-- THE SECOND FORM's CARD OF 'cavillaw15.ViewNodes'. -/
def viewNodesUptoCard : Claim7 := { stood := { row := viewNodesUptoRow, standIns := [], harness := (true, "51722cd6523613e3e657431a994d93c6fac083b71d439e7272bc160adb16c375"), looks := true }, kinds := [], alts := [], laidByText := true, laidKinds := [.handle], laidTests := true, laidLooks := .later }
def ViewNodesUptoCardSaid : Prop := Claim7.holds Tryd.pinned (.plain (OpenSpec.upto viewNodesSpec)) viewNodesUptoCard
end Rows
end Go.Proofs.YtnpgadfoohjlnaaDoor
