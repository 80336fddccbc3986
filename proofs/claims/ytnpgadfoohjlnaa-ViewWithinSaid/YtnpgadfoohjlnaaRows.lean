/-
  No cell of these rows narrows 'for every input' (looked for: loops, veiled, ifaces, maps, wideKeys, modest, calm, conditions, laid).
  DERIVED. THE GIVEN ROWS OF THIS SEAT. 5 by the template 'for every input the law returns true; each argument reads behind the call as it read before'; 0 by the template 'total and deterministic' (their statements: YtnpgadfoohjlnaaTotals.lean).
  GIVEN WITH THE SEED: the statements are not yours to turn. If you find one false, say at which input.
  Laid BY PROGRAM, IN A SANDBOX (cutbox-rows.mjs): the forced cells as the released guide's own fill.sh prints them over the translation a27350ae504f638a… (all of the seat's roots in one cut). By AI agents, Wed Nov 11 2026. No macro, syntax, notation, axiom, sorry.
-/
import Derived.Test.YtnpgadfoohjlnaaChecked
import GoSem.Claim
import GoSem.ClaimJoined
import GoSem.ClaimMapViews
import Derived.JoinedTies
import Derived.KernelRfl
namespace Go.Proofs.Ytnpgadfoohjlnaa
/- THE CELL 'sum', in the pinned program and in every row, IS THE sha256 OF THE DUMP (.gsa) THAT YtnpgadfoohjlnaaProg.lean LOADS. Nothing in Lean hashes anything: it is a label: what it is worth is what the hold of that sum in a sandbox is worth. -/
noncomputable def Try.pinned : Pinned := { name := "ytnpgadfoohjlnaa", sum := "a27350ae504f638a51a417b3e9fba42ee6ec623f0fb95e04b8664b359d6cf5d6", checked := Try.checked }
namespace Rows
def none {H : Type} : Left H := { results := [], args := [] }

/-- 'cavillaw15.ViewWithin': WHATEVER THE INPUT: true; the input reads as it did. -/
def viewWithinSpec : ChangeSpec := { name := "viewWithin", fn := fun _ => fun
  | [d] => { results := [.lit (.bool true)], args := [d] }
  | _ => none }
def viewWithinRow : OpenClaim := { program := "ytnpgadfoohjlnaa", sum := "a27350ae504f638a51a417b3e9fba42ee6ec623f0fb95e04b8664b359d6cf5d6", func := "cavil/cavillaw15.ViewWithin", spec := "viewWithin", unfollowed := true, recurses := true, apart := false }
def ViewWithinSaid : Prop := viewWithinRow.holds Try.pinned (OpenSpec.ofChange viewWithinSpec)

/-- ITS FALSE NEIGHBOUR: 'it returns false'. Refute it at one input. -/
def viewWithinWrong : ChangeSpec := { name := "viewWithin", fn := fun _ => fun
  | [d] => { results := [.lit (.bool false)], args := [d] }
  | _ => none }
def ViewWithinWrongFalsely : Prop := viewWithinRow.holds Try.pinned (OpenSpec.ofChange viewWithinWrong)

/-- 'cavillaw15.ViewTells': WHATEVER THE INPUT: true; the input reads as it did. -/
def viewTellsSpec : ChangeSpec := { name := "viewTells", fn := fun _ => fun
  | [d1, d2, d3] => { results := [.lit (.bool true)], args := [d1, d2, d3] }
  | _ => none }
def viewTellsRow : OpenClaim := { program := "ytnpgadfoohjlnaa", sum := "a27350ae504f638a51a417b3e9fba42ee6ec623f0fb95e04b8664b359d6cf5d6", func := "cavil/cavillaw15.ViewTells", spec := "viewTells", unfollowed := true, recurses := true, apart := false }
def ViewTellsSaid : Prop := viewTellsRow.holds Try.pinned (OpenSpec.ofChange viewTellsSpec)

/-- ITS FALSE NEIGHBOUR: 'it returns false'. Refute it at one input. -/
def viewTellsWrong : ChangeSpec := { name := "viewTells", fn := fun _ => fun
  | [d1, d2, d3] => { results := [.lit (.bool false)], args := [d1, d2, d3] }
  | _ => none }
def ViewTellsWrongFalsely : Prop := viewTellsRow.holds Try.pinned (OpenSpec.ofChange viewTellsWrong)

/-- 'cavillaw04.EditMaps': WHATEVER THE INPUT: true; the input reads as it did. -/
def editMapsSpec : ChangeSpec := { name := "editMaps", fn := fun _ => fun
  | [d1, d2] => { results := [.lit (.bool true)], args := [d1, d2] }
  | _ => none }
def editMapsRow : OpenClaim := { program := "ytnpgadfoohjlnaa", sum := "a27350ae504f638a51a417b3e9fba42ee6ec623f0fb95e04b8664b359d6cf5d6", func := "cavil/cavillaw04.EditMaps", spec := "editMaps", apart := false }
def EditMapsSaid : Prop := editMapsRow.holds Try.pinned (OpenSpec.ofChange editMapsSpec)

/-- ITS FALSE NEIGHBOUR: 'it returns false'. Refute it at one input. -/
def editMapsWrong : ChangeSpec := { name := "editMaps", fn := fun _ => fun
  | [d1, d2] => { results := [.lit (.bool false)], args := [d1, d2] }
  | _ => none }
def EditMapsWrongFalsely : Prop := editMapsRow.holds Try.pinned (OpenSpec.ofChange editMapsWrong)

/-- 'cavillaw04.EditKeeps': WHATEVER THE INPUT: true; the input reads as it did. -/
def editKeepsSpec : ChangeSpec := { name := "editKeeps", fn := fun _ => fun
  | [d1, d2] => { results := [.lit (.bool true)], args := [d1, d2] }
  | _ => none }
def editKeepsRow : OpenClaim := { program := "ytnpgadfoohjlnaa", sum := "a27350ae504f638a51a417b3e9fba42ee6ec623f0fb95e04b8664b359d6cf5d6", func := "cavil/cavillaw04.EditKeeps", spec := "editKeeps", apart := false }
def EditKeepsSaid : Prop := editKeepsRow.holds Try.pinned (OpenSpec.ofChange editKeepsSpec)

/-- ITS FALSE NEIGHBOUR: 'it returns false'. Refute it at one input. -/
def editKeepsWrong : ChangeSpec := { name := "editKeeps", fn := fun _ => fun
  | [d1, d2] => { results := [.lit (.bool false)], args := [d1, d2] }
  | _ => none }
def EditKeepsWrongFalsely : Prop := editKeepsRow.holds Try.pinned (OpenSpec.ofChange editKeepsWrong)

/-- 'cavillaw04.EditBack': WHATEVER THE INPUT: true; the input reads as it did. -/
def editBackSpec : ChangeSpec := { name := "editBack", fn := fun _ => fun
  | [d1, d2] => { results := [.lit (.bool true)], args := [d1, d2] }
  | _ => none }
def editBackRow : OpenClaim := { program := "ytnpgadfoohjlnaa", sum := "a27350ae504f638a51a417b3e9fba42ee6ec623f0fb95e04b8664b359d6cf5d6", func := "cavil/cavillaw04.EditBack", spec := "editBack", inPlace := ["internal/reflectlite.TypeOf"], unfollowed := true, recurses := true, apart := false }
def EditBackSaid : Prop := editBackRow.holds Try.pinned (OpenSpec.ofChange editBackSpec)

/-- ITS FALSE NEIGHBOUR: 'it returns false'. Refute it at one input. -/
def editBackWrong : ChangeSpec := { name := "editBack", fn := fun _ => fun
  | [d1, d2] => { results := [.lit (.bool false)], args := [d1, d2] }
  | _ => none }
def EditBackWrongFalsely : Prop := editBackRow.holds Try.pinned (OpenSpec.ofChange editBackWrong)

/- THE SECOND FORM. 'bulk': how many values and letters a reading holds, each counted each time it is reached (what is shared counts as often as it is met; a slice's spare places count too). A statement '..UptoSaid' is the law's where the arguments, and the package variables that the reading takes, are together of bulk at most 1048576: NARROWER than '..Said'. Prove '..Said' where nothing that the law and all that it calls make is longer than what came in: it says more and counts as full. Else prove '..UptoSaid'. A law counts once. -/
mutual
def uptoBulk {H : Type} : DataW H → Nat
  | .lit (.string bytes) => bytes.length + 1
  | .lit _ => 1
  | .nil => 1
  | .ptr d => uptoBulk d + 1
  | .slice elems spare => uptoBulkAll elems + uptoBulkAll spare + 1
  | .agg parts => uptoBulkAll parts + 1
  | .iface _ d => uptoBulk d + 1
  | .map entries => uptoBulkEntries entries + 1
  | .held _ => 1
def uptoBulkAll {H : Type} : List (DataW H) → Nat
  | [] => 0
  | d :: r => uptoBulk d + uptoBulkAll r
def uptoBulkEntries {H : Type} : List (Lit × DataW H) → Nat
  | [] => 0
  | x :: r => uptoBulkEntry x + uptoBulkEntries r
def uptoBulkEntry {H : Type} : Lit × DataW H → Nat
  | (.string bytes, d) => bytes.length + uptoBulk d + 1
  | (_, d) => uptoBulk d + 1
 end
def uptoSmall : (H : Type) → List (DataW H) → Bool := fun _ ds => decide (uptoBulkAll ds ≤ 1048576)
def OpenSpec.upto (s : _root_.Go.ChangeSpec) : _root_.Go.OpenSpec := { _root_.Go.OpenSpec.ofChange s with cond := some uptoSmall }

/-- 'cavillaw15.ViewWithin', WHERE WHAT IT READS IS OF BULK AT MOST 1048576: true; the input reads as it did. -/
def viewWithinUptoRow : OpenClaim := { program := "ytnpgadfoohjlnaa", sum := "a27350ae504f638a51a417b3e9fba42ee6ec623f0fb95e04b8664b359d6cf5d6", func := "cavil/cavillaw15.ViewWithin", spec := "viewWithin", unfollowed := true, recurses := true, apart := false, narrowed := true }
def ViewWithinUptoSaid : Prop := viewWithinUptoRow.holds Try.pinned (OpenSpec.upto viewWithinSpec)

/-- 'cavillaw15.ViewTells', WHERE WHAT IT READS IS OF BULK AT MOST 1048576: true; the input reads as it did. -/
def viewTellsUptoRow : OpenClaim := { program := "ytnpgadfoohjlnaa", sum := "a27350ae504f638a51a417b3e9fba42ee6ec623f0fb95e04b8664b359d6cf5d6", func := "cavil/cavillaw15.ViewTells", spec := "viewTells", unfollowed := true, recurses := true, apart := false, narrowed := true }
def ViewTellsUptoSaid : Prop := viewTellsUptoRow.holds Try.pinned (OpenSpec.upto viewTellsSpec)

/-- 'cavillaw04.EditMaps', WHERE WHAT IT READS IS OF BULK AT MOST 1048576: true; the input reads as it did. -/
def editMapsUptoRow : OpenClaim := { program := "ytnpgadfoohjlnaa", sum := "a27350ae504f638a51a417b3e9fba42ee6ec623f0fb95e04b8664b359d6cf5d6", func := "cavil/cavillaw04.EditMaps", spec := "editMaps", apart := false, narrowed := true }
def EditMapsUptoSaid : Prop := editMapsUptoRow.holds Try.pinned (OpenSpec.upto editMapsSpec)

/-- 'cavillaw04.EditKeeps', WHERE WHAT IT READS IS OF BULK AT MOST 1048576: true; the input reads as it did. -/
def editKeepsUptoRow : OpenClaim := { program := "ytnpgadfoohjlnaa", sum := "a27350ae504f638a51a417b3e9fba42ee6ec623f0fb95e04b8664b359d6cf5d6", func := "cavil/cavillaw04.EditKeeps", spec := "editKeeps", apart := false, narrowed := true }
def EditKeepsUptoSaid : Prop := editKeepsUptoRow.holds Try.pinned (OpenSpec.upto editKeepsSpec)

/-- 'cavillaw04.EditBack', WHERE WHAT IT READS IS OF BULK AT MOST 1048576: true; the input reads as it did. -/
def editBackUptoRow : OpenClaim := { program := "ytnpgadfoohjlnaa", sum := "a27350ae504f638a51a417b3e9fba42ee6ec623f0fb95e04b8664b359d6cf5d6", func := "cavil/cavillaw04.EditBack", spec := "editBack", inPlace := ["internal/reflectlite.TypeOf"], unfollowed := true, recurses := true, apart := false, narrowed := true }
def EditBackUptoSaid : Prop := editBackUptoRow.holds Try.pinned (OpenSpec.upto editBackSpec)

end Rows
end Go.Proofs.Ytnpgadfoohjlnaa
