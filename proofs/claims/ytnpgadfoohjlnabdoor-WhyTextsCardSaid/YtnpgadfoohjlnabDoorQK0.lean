/- Where a Lean function of this text answers, the Go function of its name comes to that answer: no other condition. Written by a program of this session out of the translation; Lean checks it. -/
import Derived.Test.YtnpgadfoohjlnabDoorProg
import Derived.Below
import Derived.Deep.Draws
import Derived.Deep.AppendLies
import Derived.Maps.AppendAt
import Derived.OwnWalk
import Derived.Laws.BytesArg
import Derived.Laws.MakeOwn
import Derived.Laws.OwnMore
import Derived.Deep.OwnRows
import Derived.Tactics
import Derived.Lib.ConvBytes
import Derived.Laws.Slices
import Derived.WalkKit
import Derived.KernelRfl
import Derived.RowKit3
import Derived.Deep.LoopGhost
import Derived.Deep.QuietTactic
import Derived.BigQuiet
import Derived.WideLaws
import Derived.Deep.DeepCutAuto
import Derived.Deep.CutBlock
import Derived.Deep.RegionHeld3
import Derived.Laws.Rows
import Derived.Lib.AppendStr
import Derived.ArgAppend
import Derived.Laws.IdiomCopy
import Derived.OrdersHeld
import Derived.Laws.BitsLemmas
import Derived.RowKit
import Derived.LaidEql
import Derived.Lib.IfaceEq
import Derived.Stop.Asserts
import Derived.RowKitTokens
import Derived.Lib.Hide
import Derived.Deep.WholeRow
import Derived.Test.YtnpgadfoohjlnabDoorFU
import Derived.Test.YtnpgadfoohjlnabDoorWWords
import Derived.Test.YtnpgadfoohjlnabDoorWLast
import Derived.Test.YtnpgadfoohjlnabDoorWTab
import Derived.Test.YtnpgadfoohjlnabDoorWFour
import Derived.Test.YtnpgadfoohjlnabDoorWQPut
import Derived.Test.YtnpgadfoohjlnabDoorWApart
import Derived.Test.YtnpgadfoohjlnabDoorWArr
import Derived.Test.YtnpgadfoohjlnabDoorWZeros
import Derived.Test.YtnpgadfoohjlnabDoorWFoot
import Derived.Test.YtnpgadfoohjlnabDoorWKept
import Derived.Test.YtnpgadfoohjlnabDoorWShare
import Derived.Test.YtnpgadfoohjlnabDoorWN
import Derived.Test.YtnpgadfoohjlnabDoorWFootNe
import Derived.Test.YtnpgadfoohjlnabDoorWAt
import Derived.Test.YtnpgadfoohjlnabDoorWEqStruct
import Derived.Test.YtnpgadfoohjlnabDoorWRepsOne
import Derived.Test.YtnpgadfoohjlnabDoorWInv
import Derived.Test.YtnpgadfoohjlnabDoorWInvWords
import Derived.Test.YtnpgadfoohjlnabDoorWGuard
import Derived.Test.YtnpgadfoohjlnabDoorWNEv
import Derived.Test.YtnpgadfoohjlnabDoorWMore
import Derived.Test.YtnpgadfoohjlnabDoorX
namespace Go.Proofs.YtnpgadfoohjlnabDoor.QK
open Go.RowKit Go.Proofs.YtnpgadfoohjlnabDoorW.PrintWords Go.Proofs.YtnpgadfoohjlnabDoorW.PrintLast Go.Proofs.YtnpgadfoohjlnabDoorW.PrintMore Go.Proofs.YtnpgadfoohjlnabDoorW.PrintX
attribute [local go_sem] max2_int min2_int max_two min_two max_three min_three max_four min_four   -- for this text's walks alone
set_option linter.unusedVariables false
set_option linter.unusedSimpArgs false



/-- An error: a number, or one at a place. -/
inductive Er where
  | no (c : Int)
  | at_ (off : Int) (e : Er)
def erT : Er → TypeId
  | .no _ => 74
  | .at_ _ _ => 79
def erV : Er → Value
  | .no c => .int .i64 c
  | .at_ off e => .agg #[.int .i64 off, .iface (erT e) (erV e)]
def errW : Option Er → Value
  | none => .nilIface
  | some e => .iface (erT e) (erV e)
theorem erT_no (c : Int) : erT (.no c) = 74 := rfl
theorem erV_no (c : Int) : erV (.no c) = .int .i64 c := rfl
theorem erT_at (o : Int) (e : Er) : erT (.at_ o e) = 79 := rfl
theorem erV_at (o : Int) (e : Er) : erV (.at_ o e) = .agg #[.int .i64 o, .iface (erT e) (erV e)] := rfl
theorem errW_none : errW none = .nilIface := rfl
theorem errW_some (e : Er) : errW (some e) = .iface (erT e) (erV e) := rfl

/-- What the program's start left in the variable internal/strconv.uint64pow10. -/
def GL_ (w : World) : Prop := Lib.TabIs Tryd.prog w "internal/strconv.uint64pow10" .u64 Lib.pow10Tab
theorem GL_below {w W : World} (h : GL_ w) (hb : Below w.heap.size w W) : GL_ W := by
  unfold GL_ Lib.TabIs World.var? at *
  cases hg : (Tryd.prog).globalNamed "internal/strconv.uint64pow10" with
  | none => simp [hg] at h
  | some g =>
    simp only [hg, Option.bind_some] at h ⊢
    have hlt : g < w.heap.size := by
      rcases Nat.lt_or_ge g w.heap.size with h' | h'
      · exact h'
      · rw [Array.getElem?_eq_none h'] at h; simp at h
    rw [hb.block g hlt]
    exact h
theorem GL_alloc {w : World} (h : GL_ w) (o : Obj) : GL_ (w.alloc o) := Lib.tabIs_alloc h o
theorem GL_drew {w : World} (h : GL_ w) : GL_ w.drew := h
theorem GL_drewN {w : World} (h : GL_ w) (n : Nat) : GL_ (w.drewN n) := h

theorem info3 : (Tryd.prog.info? 3).map (fun i => (i.zero, i.size, i.bytes)) = some (some (.int .i64 0), 1, 8) := by kernel_rfl
-- the values' own types

end Go.Proofs.YtnpgadfoohjlnabDoor.QK
