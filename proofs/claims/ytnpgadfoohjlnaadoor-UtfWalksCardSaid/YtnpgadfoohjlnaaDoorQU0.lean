/- Where a Lean function of this text answers, the Go function of its name comes to that answer: no other condition. Written by a program of this session out of the translation; Lean checks it. -/
import Derived.Test.YtnpgadfoohjlnaaDoorProg
import Derived.Below
import Derived.Deep.Draws
import Derived.Deep.AppendLies
import Derived.Maps.AppendAt
import Derived.OwnWalk
import Derived.Laws.BytesArg
import Derived.Laws.MakeOwn
import Derived.Laws.OwnMore
import Derived.Deep.OwnRows
import Derived.Tactics
import Derived.Lib.ConvBytes
import Derived.Laws.Slices
import Derived.WalkKit
import Derived.KernelRfl
import Derived.RowKit3
import Derived.Deep.LoopGhost
import Derived.Deep.QuietTactic
import Derived.BigQuiet
import Derived.WideLaws
import Derived.Deep.DeepCutAuto
import Derived.Deep.CutBlock
import Derived.Deep.RegionHeld3
import Derived.Laws.Rows
import Derived.Lib.AppendStr
import Derived.ArgAppend
import Derived.Laws.IdiomCopy
import Derived.OrdersHeld
import Derived.Laws.BitsLemmas
import Derived.RowKit
import Derived.LaidEql
import Derived.Lib.IfaceEq
import Derived.Stop.Asserts
import Derived.RowKitTokens
import Derived.Test.YtnpgadfoohjlnaaDoorWWords
import Derived.Test.YtnpgadfoohjlnaaDoorWLast
import Derived.Test.YtnpgadfoohjlnaaDoorWTab
import Derived.Test.YtnpgadfoohjlnaaDoorWFour
import Derived.Test.YtnpgadfoohjlnaaDoorWQPut
import Derived.Test.YtnpgadfoohjlnaaDoorWApart
import Derived.Test.YtnpgadfoohjlnaaDoorWArr
import Derived.Test.YtnpgadfoohjlnaaDoorWZeros
import Derived.Test.YtnpgadfoohjlnaaDoorWFoot
import Derived.Test.YtnpgadfoohjlnaaDoorWKept
import Derived.Test.YtnpgadfoohjlnaaDoorWShare
import Derived.Test.YtnpgadfoohjlnaaDoorWN
import Derived.Test.YtnpgadfoohjlnaaDoorWFootNe
import Derived.Test.YtnpgadfoohjlnaaDoorWAt
import Derived.Test.YtnpgadfoohjlnaaDoorWEqStruct
import Derived.Test.YtnpgadfoohjlnaaDoorWRepsOne
import Derived.Test.YtnpgadfoohjlnaaDoorWInv
import Derived.Test.YtnpgadfoohjlnaaDoorWInvWords
import Derived.Test.YtnpgadfoohjlnaaDoorWGuard
import Derived.Test.YtnpgadfoohjlnaaDoorWNEv
import Derived.Test.YtnpgadfoohjlnaaDoorWMore
import Derived.Test.YtnpgadfoohjlnaaDoorX
namespace Go.Proofs.YtnpgadfoohjlnaaDoor.QU
open Go.RowKit Go.Proofs.YtnpgadfoohjlnaaDoorW.PrintWords Go.Proofs.YtnpgadfoohjlnaaDoorW.PrintLast Go.Proofs.YtnpgadfoohjlnaaDoorW.PrintMore Go.Proofs.YtnpgadfoohjlnaaDoorW.PrintX
attribute [local go_sem] max2_int min2_int max_two min_two max_three min_three max_four min_four   -- for this text's walks alone
set_option linter.unusedVariables false
set_option linter.unusedSimpArgs false



/-- An error: a number, or one at a place. -/
inductive Er where
  | no (c : Int)
  | at_ (off : Int) (e : Er)
def erT : Er → TypeId
  | .no _ => 82
  | .at_ _ _ => 84
def erV : Er → Value
  | .no c => .int .i64 c
  | .at_ off e => .agg #[.int .i64 off, .iface (erT e) (erV e)]
def errW : Option Er → Value
  | none => .nilIface
  | some e => .iface (erT e) (erV e)
theorem erT_no (c : Int) : erT (.no c) = 82 := rfl
theorem erV_no (c : Int) : erV (.no c) = .int .i64 c := rfl
theorem erT_at (o : Int) (e : Er) : erT (.at_ o e) = 84 := rfl
theorem erV_at (o : Int) (e : Er) : erV (.at_ o e) = .agg #[.int .i64 o, .iface (erT e) (erV e)] := rfl
theorem errW_none : errW none = .nilIface := rfl
theorem errW_some (e : Er) : errW (some e) = .iface (erT e) (erV e) := rfl

/-- What the program's start left in the variable errors.errorType. -/
def GL_ (w : World) : Prop := w.cell? ⟨0, 0, none⟩ = some (.iface 127 (.agg #[.pointer (some ⟨4, 27, none⟩)]))
theorem GL_below {w W : World} (h : GL_ w) (hb : Below w.heap.size w W) : GL_ W := (hb.cell (p := ⟨0, 0, none⟩) (World.block_lt_of_cell? w _ h)).trans h
theorem GL_alloc {w : World} (h : GL_ w) (o : Obj) : GL_ (w.alloc o) := (World.cell?_alloc_lt w o ⟨0, 0, none⟩ (World.block_lt_of_cell? w _ h)).trans h
theorem GL_drew {w : World} (h : GL_ w) : GL_ w.drew := h
theorem GL_drewN {w : World} (h : GL_ w) (n : Nat) : GL_ (w.drewN n) := h

theorem info5 : (Tryd.prog.info? 5).map (fun i => (i.zero, i.size, i.bytes)) = some (some (.int .u8 0), 1, 1) := by kernel_rfl
-- the values' own types

end Go.Proofs.YtnpgadfoohjlnaaDoor.QU
