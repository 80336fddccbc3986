/- Where a Lean function of this text answers, the Go function of its name comes to that answer: no other condition. Written by a program of this session out of the translation; Lean checks it. -/
import Derived.Test.YtnpgadfoohjlnabDoorProg
import Derived.Below
import Derived.Deep.Draws
import Derived.Deep.AppendLies
import Derived.Maps.AppendAt
import Derived.OwnWalk
import Derived.Laws.BytesArg
import Derived.Laws.MakeOwn
import Derived.Laws.OwnMore
import Derived.Deep.OwnRows
import Derived.Tactics
import Derived.Lib.ConvBytes
import Derived.Laws.Slices
import Derived.WalkKit
import Derived.KernelRfl
import Derived.RowKit3
import Derived.Deep.LoopGhost
import Derived.Deep.QuietTactic
import Derived.BigQuiet
import Derived.WideLaws
import Derived.Deep.DeepCutAuto
import Derived.Deep.CutBlock
import Derived.Deep.RegionHeld3
import Derived.Laws.Rows
import Derived.Lib.AppendStr
import Derived.ArgAppend
import Derived.Laws.IdiomCopy
import Derived.OrdersHeld
import Derived.Laws.BitsLemmas
import Derived.RowKit
import Derived.LaidEql
import Derived.Lib.IfaceEq
import Derived.Stop.Asserts
import Derived.RowKitTokens
import Derived.Test.YtnpgadfoohjlnabDoorWWords
import Derived.Test.YtnpgadfoohjlnabDoorWLast
import Derived.Test.YtnpgadfoohjlnabDoorWTab
import Derived.Test.YtnpgadfoohjlnabDoorWFour
import Derived.Test.YtnpgadfoohjlnabDoorWQPut
import Derived.Test.YtnpgadfoohjlnabDoorWApart
import Derived.Test.YtnpgadfoohjlnabDoorWArr
import Derived.Test.YtnpgadfoohjlnabDoorWZeros
import Derived.Test.YtnpgadfoohjlnabDoorWFoot
import Derived.Test.YtnpgadfoohjlnabDoorWKept
import Derived.Test.YtnpgadfoohjlnabDoorWShare
import Derived.Test.YtnpgadfoohjlnabDoorWN
import Derived.Test.YtnpgadfoohjlnabDoorWFootNe
import Derived.Test.YtnpgadfoohjlnabDoorWAt
import Derived.Test.YtnpgadfoohjlnabDoorWEqStruct
import Derived.Test.YtnpgadfoohjlnabDoorWRepsOne
import Derived.Test.YtnpgadfoohjlnabDoorWInv
import Derived.Test.YtnpgadfoohjlnabDoorWInvWords
import Derived.Test.YtnpgadfoohjlnabDoorWGuard
import Derived.Test.YtnpgadfoohjlnabDoorWNEv
import Derived.Test.YtnpgadfoohjlnabDoorWMore
import Derived.Test.YtnpgadfoohjlnabDoorX
namespace Go.Proofs.YtnpgadfoohjlnabDoor.QE
open Go.RowKit Go.Proofs.YtnpgadfoohjlnabDoorW.PrintWords Go.Proofs.YtnpgadfoohjlnabDoorW.PrintLast Go.Proofs.YtnpgadfoohjlnabDoorW.PrintMore Go.Proofs.YtnpgadfoohjlnabDoorW.PrintX
attribute [local go_sem] max2_int min2_int max_two min_two max_three min_three max_four min_four   -- for this text's walks alone
set_option linter.unusedVariables false
set_option linter.unusedSimpArgs false



/-- An error: a number, or one at a place. -/
inductive Er where
  | no (c : Int)
  | at_ (off : Int) (e : Er)
def erT : Er → TypeId
  | .no _ => 74
  | .at_ _ _ => 79
def erV : Er → Value
  | .no c => .int .i64 c
  | .at_ off e => .agg #[.int .i64 off, .iface (erT e) (erV e)]
def errW : Option Er → Value
  | none => .nilIface
  | some e => .iface (erT e) (erV e)
theorem erT_no (c : Int) : erT (.no c) = 74 := rfl
theorem erV_no (c : Int) : erV (.no c) = .int .i64 c := rfl
theorem erT_at (o : Int) (e : Er) : erT (.at_ o e) = 79 := rfl
theorem erV_at (o : Int) (e : Er) : erV (.at_ o e) = .agg #[.int .i64 o, .iface (erT e) (erV e)] := rfl
theorem errW_none : errW none = .nilIface := rfl
theorem errW_some (e : Er) : errW (some e) = .iface (erT e) (erV e) := rfl

/-- What the program's start left in the variable errors.errorType. -/
def GL_ (w : World) : Prop := w.cell? ⟨0, 0, none⟩ = some (.iface 134 (.agg #[.pointer (some ⟨5, 30, none⟩)]))
theorem GL_below {w W : World} (h : GL_ w) (hb : Below w.heap.size w W) : GL_ W := (hb.cell (p := ⟨0, 0, none⟩) (World.block_lt_of_cell? w _ h)).trans h
theorem GL_alloc {w : World} (h : GL_ w) (o : Obj) : GL_ (w.alloc o) := (World.cell?_alloc_lt w o ⟨0, 0, none⟩ (World.block_lt_of_cell? w _ h)).trans h
theorem GL_drew {w : World} (h : GL_ w) : GL_ w.drew := h
theorem GL_drewN {w : World} (h : GL_ w) (n : Nat) : GL_ (w.drewN n) := h

theorem info5 : (Tryd.prog.info? 5).map (fun i => (i.zero, i.size, i.bytes)) = some (some (.int .u8 0), 1, 1) := by kernel_rfl
theorem info76 : (Tryd.prog.info? 76).map (fun i => (i.zero, i.size, i.bytes)) = some (some (.agg #[(.int .i64 0), (.int .i64 0), (.string ⟨#[]⟩)]), 3, 32) := by kernel_rfl
-- the values' own types
/-! #### struct type 76 -/
structure S76 where
  f0 : Int
  f1 : Int
  f2 : ByteArray
def z76 : S76 := ⟨(0 : Int), (0 : Int), (⟨#[]⟩ : ByteArray)⟩
def k76 : Kd S76 := Kd.iso (Kd.pair (Kd.int .i64) (Kd.pair (Kd.int .i64) Kd.string)) (fun x : S76 => (x.f0, x.f1, x.f2))
theorem k76_open {w : World} {x : S76} {cs : List Value} (h : k76.K w x cs) : cs = [.int .i64 x.f0, .int .i64 x.f1, .string x.f2] := by
  obtain ⟨_, _, rfl, rfl, ⟨_, _, rfl, rfl, rfl⟩⟩ := h
  exact rfl
theorem k76_openM {w : World} {base : Nat} {ok : Nat → Prop} {x : S76} {cs : List Value} (h : k76.M w base ok x cs) : cs = [.int .i64 x.f0, .int .i64 x.f1, .string x.f2] := by
  obtain ⟨_, _, rfl, rfl, ⟨_, _, rfl, rfl, rfl⟩⟩ := h
  exact rfl
theorem k76_mk (w : World) (x : S76)  : k76.K w x [.int .i64 x.f0, .int .i64 x.f1, .string x.f2] := ⟨[.int .i64 x.f0], [.int .i64 x.f1, .string x.f2], rfl, rfl, ⟨[.int .i64 x.f1], [.string x.f2], rfl, rfl, rfl⟩⟩
theorem k76_mkM (w : World) (base : Nat) (ok : Nat → Prop) (x : S76)  : k76.M w base ok x [.int .i64 x.f0, .int .i64 x.f1, .string x.f2] := ⟨[.int .i64 x.f0], [.int .i64 x.f1, .string x.f2], rfl, rfl, ⟨[.int .i64 x.f1], [.string x.f2], rfl, rfl, rfl⟩⟩
theorem k76_mkF (W : World) (ok : Nat → Prop) (x : S76) : Kd.FK k76 W ok x [.int .i64 x.f0, .int .i64 x.f1, .string x.f2] := fun W2 _ => k76_mk W2 x
def rd_T76 (xs : List S76) (i : Int) : S76 := xs.getD i.toNat z76
theorem at_T76 {w : World} {A : Option Addr} {n : Nat} {xs : List S76} (h : Kd.C k76 w A n xs) (i : Int) (h0 : 0 ≤ i) (h1 : i < n) : ∃ ad , A = some ad ∧ w.cell? (ad.add (i.toNat * 3)) = some (.int .i64 (rd_T76 xs i).f0) ∧ w.cell? ⟨(ad.add (i.toNat * 3)).block, (ad.add (i.toNat * 3)).off + 1, none⟩ = some (.int .i64 (rd_T76 xs i).f1) ∧ w.cell? ⟨(ad.add (i.toNat * 3)).block, (ad.add (i.toNat * 3)).off + 2, none⟩ = some (.string (rd_T76 xs i).f2) := by
  obtain ⟨ad, c, e, _, hK, hc0⟩ := Kd.C_get h z76 i h0 h1
  have hc : ∀ j u, c[j]? = some u → w.cell? (ad.add (i.toNat * 3 + j)) = some u := hc0
  obtain rfl := k76_open hK
  exact ⟨ad, e, hc 0 _ rfl, by rw [← add_field _ _ 1 (by omega)]; exact hc 1 _ rfl, by rw [← add_field _ _ 2 (by omega)]; exact hc 2 _ rfl⟩

end Go.Proofs.YtnpgadfoohjlnabDoor.QE
