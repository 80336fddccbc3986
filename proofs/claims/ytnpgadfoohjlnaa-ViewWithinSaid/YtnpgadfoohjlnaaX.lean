/- Words of this session's beside the print's own: []byte(s) as a row that is read. No condition. -/
import Derived.Test.YtnpgadfoohjlnaaWWords
import Derived.Test.YtnpgadfoohjlnaaWLast
import Derived.Test.YtnpgadfoohjlnaaWTab
import Derived.Test.YtnpgadfoohjlnaaWFour
import Derived.Test.YtnpgadfoohjlnaaWQPut
import Derived.Test.YtnpgadfoohjlnaaWApart
import Derived.Test.YtnpgadfoohjlnaaWArr
import Derived.Test.YtnpgadfoohjlnaaWZeros
import Derived.Test.YtnpgadfoohjlnaaWFoot
import Derived.Test.YtnpgadfoohjlnaaWKept
import Derived.Test.YtnpgadfoohjlnaaWShare
import Derived.Test.YtnpgadfoohjlnaaWN
import Derived.Test.YtnpgadfoohjlnaaWFootNe
import Derived.Test.YtnpgadfoohjlnaaWAt
import Derived.Test.YtnpgadfoohjlnaaWEqStruct
import Derived.Test.YtnpgadfoohjlnaaWRepsOne
import Derived.Test.YtnpgadfoohjlnaaWInv
import Derived.Test.YtnpgadfoohjlnaaWInvWords
import Derived.Test.YtnpgadfoohjlnaaWGuard
import Derived.Test.YtnpgadfoohjlnaaWNEv
import Derived.Test.YtnpgadfoohjlnaaWMore
import Derived.Lib.ConvBytes
import Derived.Lib.SlBytesConst
import Derived.Below
import Derived.WalkKit
namespace Go.Proofs.YtnpgadfoohjlnaaW.PrintX
open Go.RowKit Go.Proofs.YtnpgadfoohjlnaaW.PrintWords Go.Proofs.YtnpgadfoohjlnaaW.PrintLast Go.Proofs.YtnpgadfoohjlnaaW.PrintMore
/-! Words of this session's beside the print's own. -/
/-- Which operations of a region have run, as a number's bits. -/
def bl_ (n k : Nat) : Array Bool := ((List.range n).map (fun i => k.testBit i)).toArray
namespace Kd
open Go.Proofs.YtnpgadfoohjlnaaW.PrintWords.Kd Go.Proofs.YtnpgadfoohjlnaaW.PrintMore.Kd
section
variable {P : Program} {ops : Array Oper} {rest : List Oper} {o : Oper} {a : Act} {Q : Exit → Act → World → Prop} {Kc : Act → World → Prop}
/-- '[]byte(c)' of a constant: a literal's row, and its mark. -/
theorem V_const {o2 : Oper} {w0 W : World} (base e : Nat) (hg1 : o.guard = none) {N : Tmp} (_hd : o.dst = some N) (hg2 : o2.guard = none) (xs : List Int) (t : TypeId) (x : Operand)
    (hrun : (execOp a.eval o).run P W = .ok (.value (.slice (some ⟨W.heap.size, 0, none⟩) xs.length xs.length)) (W.alloc (.cells (nums .u8 xs).toArray e)))
    (ho : o2.op = .convert t t x) (hx : ∀ v, (a.put o.dst v).eval x = v) (ht : P.underlying t = some (.slice e)) (he : P.underlying e = some (.int .u8)) (hm : xs.length ≤ 9223372036854775807) (HB : Below base w0 W) (hbase : base ≤ W.heap.size)
    (h : ∀ v1 w1, V (Kd.int .u8) e w1 base (fun k => W.heap.size ≤ k) v1 xs → Below base w0 w1 → W.grownBy w1 none → (∃ b, v1.ownBlock = some b ∧ W.heap.size ≤ b) → wpList P ops Q rest ((a.put o.dst v1).put o2.dst v1) w1) : wpList P ops Q (o :: o2 :: rest) a W := by
  have hb0 : Below W.heap.size W (W.alloc (.cells (nums .u8 xs).toArray e ((nums .u8 xs).toArray.size, (nums .u8 xs).toArray.size + 1))) := below_alloc (Below.refl _ _) _
  refine event_run hg1 hrun (event_run hg2 (v := .slice (some ⟨W.heap.size, 0, none⟩) xs.length xs.length) (w1 := W.alloc (.cells (nums .u8 xs).toArray e ((nums .u8 xs).toArray.size, (nums .u8 xs).toArray.size + 1))) ?_ (h _ _ ?_ (HB.alloc hbase _) (grown_of_below hb0 none) ⟨W.heap.size, by simp [Value.ownBlock], Nat.le_refl _⟩))
  · have hr := Lib.run_convert_bytes_const (P := P) W t e (nums .u8 xs).toArray xs.length xs.length ht he
    have hx' := hx (.slice (some ⟨W.heap.size, 0, none⟩) xs.length xs.length)
    simp only [execOp, ho, hx']
    simp [hr]
  · refine ⟨some ⟨W.heap.size, 0, none⟩, xs.length, rfl, Nat.le_refl _, ?_⟩
    intro W' hW
    have hn : ∀ o' : Obj, (W.alloc o').heap[W.heap.size]? = some o' := fun o' => blk_new W o'
    have hb := hW W.heap.size (Nat.le_refl _) (blk_lt (blk_new W _))
    rw [hn] at hb
    refine C_of_reads (d := (0 : Int)) ⟨rfl, hm, fun _ => ⟨_, rfl, fun j hj => ?_⟩⟩
    rw [add_plain, cell_of_row W' W.heap.size j _ _ _ hb]
    have hj' : j < (nums .u8 xs).length := by rw [nums_length]; exact hj
    simp [nums, List.getD_eq_getElem?_getD, List.getElem?_eq_getElem hj]
end
end Kd
/-- What a cell of the call's begin holds lies in no block that came later. -/
theorem ne_c {w : World} {a : Addr} {v : Value} {n : Nat} (h : w.cell? a = some v) (hn : w.heap.size ≤ n) : a.block ≠ n := Nat.ne_of_lt (Nat.lt_of_lt_of_le (World.block_lt_of_cell? w _ h) hn)
theorem ne_c2 {w : World} {a : Addr} {k : Nat} {v : Value} {n : Nat} (h : w.cell? (a.add k) = some v) (hn : w.heap.size ≤ n) : a.block ≠ n := by have := ne_c h hn; rwa [add_block] at this
end Go.Proofs.YtnpgadfoohjlnaaW.PrintX
