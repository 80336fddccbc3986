/- Words of this session's beside the print's own: []byte(s) as a row that is read. No condition. -/
import Derived.Test.YtnpgadfoohjlnaaDoorWWords
import Derived.Test.YtnpgadfoohjlnaaDoorWLast
import Derived.Test.YtnpgadfoohjlnaaDoorWTab
import Derived.Test.YtnpgadfoohjlnaaDoorWFour
import Derived.Test.YtnpgadfoohjlnaaDoorWQPut
import Derived.Test.YtnpgadfoohjlnaaDoorWApart
import Derived.Test.YtnpgadfoohjlnaaDoorWArr
import Derived.Test.YtnpgadfoohjlnaaDoorWZeros
import Derived.Test.YtnpgadfoohjlnaaDoorWFoot
import Derived.Test.YtnpgadfoohjlnaaDoorWKept
import Derived.Test.YtnpgadfoohjlnaaDoorWShare
import Derived.Test.YtnpgadfoohjlnaaDoorWN
import Derived.Test.YtnpgadfoohjlnaaDoorWFootNe
import Derived.Test.YtnpgadfoohjlnaaDoorWAt
import Derived.Test.YtnpgadfoohjlnaaDoorWEqStruct
import Derived.Test.YtnpgadfoohjlnaaDoorWRepsOne
import Derived.Test.YtnpgadfoohjlnaaDoorWInv
import Derived.Test.YtnpgadfoohjlnaaDoorWInvWords
import Derived.Test.YtnpgadfoohjlnaaDoorWGuard
import Derived.Test.YtnpgadfoohjlnaaDoorWNEv
import Derived.Test.YtnpgadfoohjlnaaDoorWMore
import Derived.Lib.ConvBytes
import Derived.Lib.SlBytesConst
import Derived.Below
import Derived.WalkKit
namespace Go.Proofs.YtnpgadfoohjlnaaDoorW.PrintX
open Go.RowKit Go.Proofs.YtnpgadfoohjlnaaDoorW.PrintWords Go.Proofs.YtnpgadfoohjlnaaDoorW.PrintLast Go.Proofs.YtnpgadfoohjlnaaDoorW.PrintMore
/-! Words of this session's beside the print's own. -/
/-- Which operations of a region have run, as a number's bits. -/
def bl_ (n k : Nat) : Array Bool := ((List.range n).map (fun i => k.testBit i)).toArray
namespace Kd
open Go.Proofs.YtnpgadfoohjlnaaDoorW.PrintWords.Kd Go.Proofs.YtnpgadfoohjlnaaDoorW.PrintMore.Kd
section
variable {P : Program} {ops : Array Oper} {rest : List Oper} {o : Oper} {a : Act} {Q : Exit → Act → World → Prop} {Kc : Act → World → Prop}
/-- '[]byte(c)' of a constant: a literal's row, and its mark. -/
theorem V_const {o2 : Oper} {w0 W : World} (base e : Nat) (hg1 : o.guard = none) {N : Tmp} (_hd : o.dst = some N) (hg2 : o2.guard = none) (xs : List Int) (t : TypeId) (x : Operand)
    (hrun : (execOp a.eval o).run P W = .ok (.value (.slice (some ⟨W.heap.size, 0, none⟩) xs.length xs.length)) (W.alloc (.cells (nums .u8 xs).toArray e)))
    (ho : o2.op = .convert t t x) (hx : ∀ v, (a.put o.dst v).eval x = v) (ht : P.underlying t = some (.slice e)) (he : P.underlying e = some (.int .u8)) (hm : xs.length ≤ 9223372036854775807) (HB : Below base w0 W) (hbase : base ≤ W.heap.size)
    (h : ∀ v1 w1, V (Kd.int .u8) e w1 base (fun k => W.heap.size ≤ k) v1 xs → Below base w0 w1 → W.grownBy w1 none → (∃ b, v1.ownBlock = some b ∧ W.heap.size ≤ b) → wpList P ops Q rest ((a.put o.dst v1).put o2.dst v1) w1) : wpList P ops Q (o :: o2 :: rest) a W := by
  have hb0 : Below W.heap.size W (W.alloc (.cells (nums .u8 xs).toArray e ((nums .u8 xs).toArray.size, (nums .u8 xs).toArray.size + 1))) := below_alloc (Below.refl _ _) _
  refine event_run hg1 hrun (event_run hg2 (v := .slice (some ⟨W.heap.size, 0, none⟩) xs.length xs.length) (w1 := W.alloc (.cells (nums .u8 xs).toArray e ((nums .u8 xs).toArray.size, (nums .u8 xs).toArray.size + 1))) ?_ (h _ _ ?_ (HB.alloc hbase _) (grown_of_below hb0 none) ⟨W.heap.size, by simp [Value.ownBlock], Nat.le_refl _⟩))
  · have hr := Lib.run_convert_bytes_const (P := P) W t e (nums .u8 xs).toArray xs.length xs.length ht he
    have hx' := hx (.slice (some ⟨W.heap.size, 0, none⟩) xs.length xs.length)
    simp only [execOp, ho, hx']
    simp [hr]
  · refine ⟨some ⟨W.heap.size, 0, none⟩, xs.length, rfl, Nat.le_refl _, ?_⟩
    intro W' hW
    have hn : ∀ o' : Obj, (W.alloc o').heap[W.heap.size]? = some o' := fun o' => blk_new W o'
    have hb := hW W.heap.size (Nat.le_refl _) (blk_lt (blk_new W _))
    rw [hn] at hb
    refine C_of_reads (d := (0 : Int)) ⟨rfl, hm, fun _ => ⟨_, rfl, fun j hj => ?_⟩⟩
    rw [add_plain, cell_of_row W' W.heap.size j _ _ _ hb]
    have hj' : j < (nums .u8 xs).length := by rw [nums_length]; exact hj
    simp [nums, List.getD_eq_getElem?_getD, List.getElem?_eq_getElem hj]
end
end Kd
/-- What a cell of the call's begin holds lies in no block that came later. -/
theorem ne_c {w : World} {a : Addr} {v : Value} {n : Nat} (h : w.cell? a = some v) (hn : w.heap.size ≤ n) : a.block ≠ n := Nat.ne_of_lt (Nat.lt_of_lt_of_le (World.block_lt_of_cell? w _ h) hn)
/-! What a walk says often, once: the tactic stands in the last argument. -/
theorem go_b {B : Nat} {w w1 W : World} (h : Below B w w1) (k : Below B w w1 → Below B w W := by intro h; repeat (first | (with_reducible first | exact h | apply below_alloc | apply pw_below_drewN | apply below_drew1) | exact h)) : Below B w W := k h
theorem go_b1 {B n1 : Nat} {w w1 W : World} (h : Below B w w1) (g1 : B ≤ n1) (k : Below B w w1 → B ≤ n1 → Below B w W := by intro h g1; repeat (first | (with_reducible first | exact h | apply below_alloc | apply pw_below_drewN | apply below_drew1 | refine below_set ?_ g1) | exact h)) : Below B w W := k h g1
theorem go_b2 {B n1 n2 : Nat} {w w1 W : World} (h : Below B w w1) (g1 : B ≤ n1) (g2 : B ≤ n2) (k : Below B w w1 → B ≤ n1 → B ≤ n2 → Below B w W := by intro h g1 g2; repeat (first | (with_reducible first | exact h | apply below_alloc | apply pw_below_drewN | apply below_drew1 | refine below_set ?_ g1 | refine below_set ?_ g2) | exact h)) : Below B w W := k h g1 g2
theorem go_b3 {B n1 n2 n3 : Nat} {w w1 W : World} (h : Below B w w1) (g1 : B ≤ n1) (g2 : B ≤ n2) (g3 : B ≤ n3) (k : Below B w w1 → B ≤ n1 → B ≤ n2 → B ≤ n3 → Below B w W := by intro h g1 g2 g3; repeat (first | (with_reducible first | exact h | apply below_alloc | apply pw_below_drewN | apply below_drew1 | refine below_set ?_ g1 | refine below_set ?_ g2 | refine below_set ?_ g3) | exact h)) : Below B w W := k h g1 g2 g3
theorem go_k {w1 W : World} {g : Nat} {o : Obj} (h : w1.heap[g]? = some o) (k : w1.heap[g]? = some o → W.heap[g]? = some o := by intro h; (with_reducible repeat (first | refine blk_drewN ?_ _ | refine blk_drew ?_ | refine blk_alloc ?_ _)); exact h) : W.heap[g]? = some o := k h
theorem go_V {α : Type} {d : Kd α} {e base : Nat} {ok : Nat → Prop} {v : Value} {xs : List α} {w1 W : World} (h : Kd.V d e w1 base ok v xs) (k : Kd.V d e w1 base ok v xs → Kd.V d e W base ok v xs := by intro h; (with_reducible repeat (first | apply Kd.V_alloc | apply Kd.V_drewN | apply Kd.V_drew)); exact h) : Kd.V d e W base ok v xs := k h
theorem go_R {α : Type} {d : Kd α} {e base : Nat} {ok : Nat → Prop} {v : Value} {xs : List α} {w1 W : World} (h : Kd.R d e w1 base ok v xs) (k : Kd.R d e w1 base ok v xs → Kd.R d e W base ok v xs := by intro h; (with_reducible repeat (first | apply Kd.R_alloc | apply Kd.R_drewN | apply Kd.R_drew)); exact h) : Kd.R d e W base ok v xs := k h
theorem go_N {α : Type} {d : Kd α} {e base : Nat} {ok : Nat → Prop} {v : Value} {xs : List α} {w1 W : World} (h : Kd.N d e w1 base ok v xs) (k : Kd.N d e w1 base ok v xs → Kd.N d e W base ok v xs := by intro h; (with_reducible repeat (first | apply Kd.N_alloc | apply Kd.N_drewN | apply Kd.N_drew)); exact h) : Kd.N d e W base ok v xs := k h
theorem far_c {w W : World} {a : Addr} {v u : Value} {n j : Nat} (h : w.cell? a = some v) (hn : w.heap.size ≤ n) : (W.setCell ⟨n, j, none⟩ u).cell? a = W.cell? a := cell_far (p := ⟨n, j, none⟩) (ne_c h hn) u
theorem cell_b {w W : World} {a : Addr} {v : Value} (hb : Below w.heap.size w W) (h : w.cell? a = some v) : W.cell? a = some v := (hb.cell (World.block_lt_of_cell? w _ h)).trans h
theorem of_dec {p : Prop} [Decidable p] (h : decide p = true := by first | (with_reducible assumption) | assumption) : p := of_decide_eq_true h
end Go.Proofs.YtnpgadfoohjlnaaDoorW.PrintX
