/- Words of this session's beside the print's own: []byte(s) as a row that is read. No condition. -/
import Derived.Test.YtnpgadfoohjlnabDoorWWords
import Derived.Test.YtnpgadfoohjlnabDoorWLast
import Derived.Test.YtnpgadfoohjlnabDoorWTab
import Derived.Test.YtnpgadfoohjlnabDoorWFour
import Derived.Test.YtnpgadfoohjlnabDoorWQPut
import Derived.Test.YtnpgadfoohjlnabDoorWApart
import Derived.Test.YtnpgadfoohjlnabDoorWArr
import Derived.Test.YtnpgadfoohjlnabDoorWZeros
import Derived.Test.YtnpgadfoohjlnabDoorWFoot
import Derived.Test.YtnpgadfoohjlnabDoorWKept
import Derived.Test.YtnpgadfoohjlnabDoorWShare
import Derived.Test.YtnpgadfoohjlnabDoorWN
import Derived.Test.YtnpgadfoohjlnabDoorWFootNe
import Derived.Test.YtnpgadfoohjlnabDoorWAt
import Derived.Test.YtnpgadfoohjlnabDoorWEqStruct
import Derived.Test.YtnpgadfoohjlnabDoorWRepsOne
import Derived.Test.YtnpgadfoohjlnabDoorWInv
import Derived.Test.YtnpgadfoohjlnabDoorWInvWords
import Derived.Test.YtnpgadfoohjlnabDoorWGuard
import Derived.Test.YtnpgadfoohjlnabDoorWNEv
import Derived.Test.YtnpgadfoohjlnabDoorWMore
import Derived.Lib.ConvBytes
import Derived.Lib.SlBytesConst
import Derived.Below
import Derived.WalkKit
namespace Go.Proofs.YtnpgadfoohjlnabDoorW.PrintX
open Go.RowKit Go.Proofs.YtnpgadfoohjlnabDoorW.PrintWords Go.Proofs.YtnpgadfoohjlnabDoorW.PrintLast Go.Proofs.YtnpgadfoohjlnabDoorW.PrintMore
/-! Words of this session's beside the print's own. -/
/-- Which operations of a region have run, as a number's bits. -/
def bl_ (n k : Nat) : Array Bool := ((List.range n).map (fun i => k.testBit i)).toArray
namespace Kd
open Go.Proofs.YtnpgadfoohjlnabDoorW.PrintWords.Kd Go.Proofs.YtnpgadfoohjlnabDoorW.PrintMore.Kd
theorem cell_blk {w w1 : World} {a : Addr} (hb : w1.heap[a.block]? = w.heap[a.block]?) : w1.cell? a = w.cell? a := by
  unfold World.cell?
  rw [hb]
section
variable {P : Program} {ops : Array Oper} {rest : List Oper} {o : Oper} {a : Act} {Q : Exit → Act → World → Prop} {Kc : Act → World → Prop}
/-- What '[]byte(s)' leaves: a row that is only read, in a block that is new. -/
theorem V_bytes_of (W : World) (e base : Nat) (s : ByteArray) (hs : s.size ≤ 9223372036854775807) : V (Kd.int .u8) e (Lib.bytesWorld W e s) base (fun k => W.heap.size ≤ k) (.slice (some ⟨W.heap.size, 0, none⟩) s.size (grownCap W s.size 0 e)) (bytesOf s) := by
  have hl : (bytesOf s).length = s.size := bytesOf_length s
  refine ⟨some ⟨W.heap.size, 0, none⟩, grownCap W s.size 0 e, by rw [hl], by rw [hl]; exact grownCap_ge W s.size 0 e, ?_⟩
  rw [hl]
  intro W' hW
  have hb : W'.heap[W.heap.size]? = (Lib.bytesWorld W e s).heap[W.heap.size]? := hW _ (Nat.le_refl _) (by rw [Lib.bytesWorld_size]; omega)
  obtain ⟨h1, h2, h3⟩ := bytes_reads W e s hs
  refine C_of_reads (d := (0 : Int)) ⟨h1, h2, fun hn => ?_⟩
  obtain ⟨ad, he, hc⟩ := h3 hn
  refine ⟨ad, he, fun j hj => ?_⟩
  obtain rfl : (⟨W.heap.size, 0, none⟩ : Addr) = ad := Option.some.inj he
  rw [add_plain]
  rw [← hc j hj, add_plain]
  exact cell_blk hb
theorem V_make {w0 W : World} (base e : Nat) (hgd : o.guard = none) {N : Tmp} (_hd : o.dst = some N) (src dst : TypeId) (x : Operand) (ho : o.op = .convert src dst x) (s : ByteArray) (hx : a.eval x = .string s) {u : TypeDesc}
    (hs : P.underlying src = some u) (hd : P.underlying dst = some (.slice e)) (he : P.underlying e = some (.int .u8)) (hm : s.size ≤ 9223372036854775807) (HB : Below base w0 W) (hbase : base ≤ W.heap.size)
    (h : ∀ v1 w1, V (Kd.int .u8) e w1 base (fun k => W.heap.size ≤ k) v1 (bytesOf s) → Below base w0 w1 → W.grownBy w1 none → (∃ b, v1.ownBlock = some b ∧ W.heap.size ≤ b) → wpList P ops Q rest (a.put o.dst v1) w1) : wpList P ops Q (o :: rest) a W := by
  have hr := print_bytes (P := P) src dst e hs hd he s W
  have hb := bytes_below (Below.refl W.heap.size W) (Nat.le_refl _) e s
  refine event_run hgd (v := .slice (some ⟨W.heap.size, 0, none⟩) s.size (grownCap W s.size 0 e)) (w1 := Lib.bytesWorld W e s) ?_ (h _ _ (V_bytes_of W e base s hm) (bytes_below HB hbase e s) (grown_of_below hb none) ⟨W.heap.size, by simp [Value.ownBlock], Nat.le_refl _⟩)
  simp [execOp, ho, hx, hr]
theorem V_make_step {w0 W : World} (base e : Nat) (hw : Region.wanted o (yielded ops a.tmps) = true) {N : Tmp} (_hd : o.dst = some N) (src dst : TypeId) (x : Operand) (ho : o.op = .convert src dst x) (s : ByteArray) (hx : a.eval x = .string s) {u : TypeDesc}
    (hs : P.underlying src = some u) (hd : P.underlying dst = some (.slice e)) (he : P.underlying e = some (.int .u8)) (hm : s.size ≤ 9223372036854775807) (HB : Below base w0 W) (hbase : base ≤ W.heap.size)
    (h : ∀ v1 w1, V (Kd.int .u8) e w1 base (fun k => W.heap.size ≤ k) v1 (bytesOf s) → Below base w0 w1 → W.grownBy w1 none → (∃ b, v1.ownBlock = some b ∧ W.heap.size ≤ b) → Kc (a.put o.dst v1) w1) :
    if Region.wanted o (yielded ops a.tmps) = true then Oper.wp P o a W Kc Q else Kc (a.put o.dst undef) W := by
  have hr := print_bytes (P := P) src dst e hs hd he s W
  have hb := bytes_below (Below.refl W.heap.size W) (Nat.le_refl _) e s
  refine event_step hw (v := .slice (some ⟨W.heap.size, 0, none⟩) s.size (grownCap W s.size 0 e)) (w1 := Lib.bytesWorld W e s) ?_ (h _ _ (V_bytes_of W e base s hm) (bytes_below HB hbase e s) (grown_of_below hb none) ⟨W.heap.size, by simp [Value.ownBlock], Nat.le_refl _⟩)
  simp [execOp, ho, hx, hr]
/-- '[]byte(c)' of a constant: a literal's row, and its mark. -/
theorem V_const {o2 : Oper} {w0 W : World} (base e : Nat) (hg1 : o.guard = none) {N : Tmp} (_hd : o.dst = some N) (hg2 : o2.guard = none) (xs : List Int) (t : TypeId) (x : Operand)
    (hrun : (execOp a.eval o).run P W = .ok (.value (.slice (some ⟨W.heap.size, 0, none⟩) xs.length xs.length)) (W.alloc (.cells (nums .u8 xs).toArray e)))
    (ho : o2.op = .convert t t x) (hx : ∀ v, (a.put o.dst v).eval x = v) (ht : P.underlying t = some (.slice e)) (he : P.underlying e = some (.int .u8)) (hm : xs.length ≤ 9223372036854775807) (HB : Below base w0 W) (hbase : base ≤ W.heap.size)
    (h : ∀ v1 w1, V (Kd.int .u8) e w1 base (fun k => W.heap.size ≤ k) v1 xs → Below base w0 w1 → W.grownBy w1 none → (∃ b, v1.ownBlock = some b ∧ W.heap.size ≤ b) → wpList P ops Q rest ((a.put o.dst v1).put o2.dst v1) w1) : wpList P ops Q (o :: o2 :: rest) a W := by
  have hb0 : Below W.heap.size W (W.alloc (.cells (nums .u8 xs).toArray e ((nums .u8 xs).toArray.size, (nums .u8 xs).toArray.size + 1))) := below_alloc (Below.refl _ _) _
  refine event_run hg1 hrun (event_run hg2 (v := .slice (some ⟨W.heap.size, 0, none⟩) xs.length xs.length) (w1 := W.alloc (.cells (nums .u8 xs).toArray e ((nums .u8 xs).toArray.size, (nums .u8 xs).toArray.size + 1))) ?_ (h _ _ ?_ (HB.alloc hbase _) (grown_of_below hb0 none) ⟨W.heap.size, by simp [Value.ownBlock], Nat.le_refl _⟩))
  · have hr := Lib.run_convert_bytes_const (P := P) W t e (nums .u8 xs).toArray xs.length xs.length ht he
    have hx' := hx (.slice (some ⟨W.heap.size, 0, none⟩) xs.length xs.length)
    simp only [execOp, ho, hx']
    simp [hr]
  · refine ⟨some ⟨W.heap.size, 0, none⟩, xs.length, rfl, Nat.le_refl _, ?_⟩
    intro W' hW
    have hn : ∀ o' : Obj, (W.alloc o').heap[W.heap.size]? = some o' := fun o' => blk_new W o'
    have hb := hW W.heap.size (Nat.le_refl _) (blk_lt (blk_new W _))
    rw [hn] at hb
    refine C_of_reads (d := (0 : Int)) ⟨rfl, hm, fun _ => ⟨_, rfl, fun j hj => ?_⟩⟩
    rw [add_plain, cell_of_row W' W.heap.size j _ _ _ hb]
    have hj' : j < (nums .u8 xs).length := by rw [nums_length]; exact hj
    simp [nums, List.getD_eq_getElem?_getD, List.getElem?_eq_getElem hj]
/-- Appending a string's bytes to a row of one's own: where the new row lies, too. -/
theorem str_run (base : Nat) (t u ty e : TypeId) {W : World} (ht : P.underlying t = some (.slice e)) (hu : P.underlying u = some .string) (hinfo : (P.info? e).map (fun i => (i.zero, i.size, i.bytes)) = some (some (.int .u8 0), 1, 1))
    (v : Value) (xs : List Int) (y : ByteArray) (ok : Nat → Prop) (hfresh : ∀ k, W.heap.size ≤ k → ok k) (HO : (Kd.int .u8).R e W base ok v xs) (hbase : base ≤ W.heap.size) (hl : xs.length + y.size ≤ 140737488355328) :
    ∃ v1 w1, (Builtin.append_ #[t, u] ty #[v, .string y]).run P W = .ok v1 w1 ∧ (Kd.int .u8).R e w1 base ok v1 (xs ++ bytesOf y) ∧ W.grownBy w1 v.ownBlock ∧ (v1.ownBlock = v.ownBlock ∨ ∃ b, v1.ownBlock = some b ∧ W.heap.size ≤ b) := by
  obtain ⟨i0, hi, hzz⟩ := Option.map_eq_some_iff.1 hinfo
  simp only [Prod.mk.injEq] at hzz
  obtain ⟨hz0, hz1, hz2⟩ := hzz
  have hown := own_of_R (enc := Value.int .u8) (h1 := fun _ => rfl) HO
  obtain ⟨v1, w1, hr, hw1, hg, hn⟩ := Lib.run_append_own_string (P := P) W base t u ty e i0 ht hu hi hz0 hz1 hz2 v xs.length _ hown y (by simp only [maxLen]; omega) hl hbase
  have hat : v1.ownBlock = v.ownBlock ∨ ∃ b, v1.ownBlock = some b ∧ W.heap.size ≤ b := by
    rcases hown.2 with ⟨rfl, hx⟩ | ⟨g, cap, cur, rfl, _, hgb, hnc, hcm, hcs, htake⟩
    · by_cases hm : y.size = 0
      · exact .inl (by rw [hn.2 ⟨rfl, hm⟩])
      · rw [run_append_nil_string (P := P) W t u ty e i0 (.int .u8 0) ht hu hi hz0 y (by omega) (by omega) (by rw [hz2]; omega)] at hr
        injection hr with h1 h2
        exact .inr ⟨_, by rw [← h1]; rfl, Nat.le_refl _⟩
    · have hcs' : cur.size = cap := by simpa using hcs
      by_cases hroom : xs.length + y.size ≤ cap
      · rw [Lib.run_append_room_string (P := P) W t u ty e i0 ht hu hi hz1 g xs.length cap cur hgb y hroom (by omega)] at hr
        injection hr with h1 h2
        exact .inl (by rw [← h1]; rfl)
      · rw [Lib.run_append_grow_string (P := P) W t u ty e i0 (.int .u8 0) ht hu hi hz0 ⟨g, 0, none⟩ xs.length cap _ (by rw [hz1]; simpa using hown.1) (hown.cells (g := g) rfl) y (by omega) (by simp only [maxLen] at hcm; omega) (by rw [hz2]; exact growslice_fits (by omega) (by omega))] at hr
        injection hr with h1 h2
        exact .inr ⟨_, by rw [← h1]; rfl, Nat.le_refl _⟩
  have hl2 : (xs ++ bytesOf y).length = xs.length + y.size := by rw [List.length_append, bytesOf_length]
  have hc : encs (Value.int .u8) (xs ++ bytesOf y) = encs (Value.int .u8) xs ++ Lib.strCells y := by
    simp [encs, bytesOf, Lib.strCells]
  refine ⟨v1, w1, hr, R_of_own (h1 := fun _ => rfl) (by rw [hl2, hc]; exact hw1) ?_, hg, hat⟩
  intro k hk
  rcases hat with h | ⟨b, h, hb⟩
  · exact HO.1 k (h ▸ hk)
  · exact hfresh k (by rw [h] at hk; injection hk with hk; omega)
theorem R_append_str {w0 W : World} (base : Nat) (hgd : o.guard = none) (s x : Operand) (t u e : TypeId)
    (ho : o.op = .call { callee := .builtin .append, args := #[s, x], argTypes := #[t, u] })
    (ht : P.underlying t = some (.slice e)) (hu : P.underlying u = some .string) (hinfo : (P.info? e).map (fun i => (i.zero, i.size, i.bytes)) = some (some (.int .u8 0), 1, 1))
    (v : Value) (xs : List Int) (y : ByteArray) (ok : Nat → Prop) (hs : a.eval s = v) (hx : a.eval x = .string y) (hfresh : ∀ k, W.heap.size ≤ k → ok k)
    (HO : (Kd.int .u8).R e W base ok v xs) (HB : Below base w0 W) (hbase : base ≤ W.heap.size) (hl : xs.length + y.size ≤ 140737488355328)
    (h : ∀ v1 w1, (Kd.int .u8).R e w1 base ok v1 (xs ++ bytesOf y) → Below base w0 w1 → W.grownBy w1 v.ownBlock → (v1.ownBlock = v.ownBlock ∨ ∃ b, v1.ownBlock = some b ∧ W.heap.size ≤ b) → wpList P ops Q rest (a.put o.dst v1) w1) :
    wpList P ops Q (o :: rest) a W := by
  obtain ⟨v1, w1, hr1, h1, hg, hat⟩ := str_run (P := P) base t u o.type e ht hu hinfo v xs y ok hfresh HO hbase hl
  refine wpList_plain hgd fun K hK => ?_
  unfold Oper.wp execOp
  simp only [ho, resolve, invoke, builtin, Sem.run_bind, Sem.run_pure, Result.andThen_ok, List.map_toArray, List.map_cons, List.map_nil, hs, hx, hr1]
  exact hK _ _ (h v1 w1 h1 (HB.grown hg hbase (R_base HO)) hg hat)
theorem R_append_str_step {w0 W : World} (base : Nat) (hw : Region.wanted o (yielded ops a.tmps) = true) (s x : Operand) (t u e : TypeId)
    (ho : o.op = .call { callee := .builtin .append, args := #[s, x], argTypes := #[t, u] })
    (ht : P.underlying t = some (.slice e)) (hu : P.underlying u = some .string) (hinfo : (P.info? e).map (fun i => (i.zero, i.size, i.bytes)) = some (some (.int .u8 0), 1, 1))
    (v : Value) (xs : List Int) (y : ByteArray) (ok : Nat → Prop) (hs : a.eval s = v) (hx : a.eval x = .string y) (hfresh : ∀ k, W.heap.size ≤ k → ok k)
    (HO : (Kd.int .u8).R e W base ok v xs) (HB : Below base w0 W) (hbase : base ≤ W.heap.size) (hl : xs.length + y.size ≤ 140737488355328)
    (h : ∀ v1 w1, (Kd.int .u8).R e w1 base ok v1 (xs ++ bytesOf y) → Below base w0 w1 → W.grownBy w1 v.ownBlock → (v1.ownBlock = v.ownBlock ∨ ∃ b, v1.ownBlock = some b ∧ W.heap.size ≤ b) → Kc (a.put o.dst v1) w1) :
    if Region.wanted o (yielded ops a.tmps) = true then Oper.wp P o a W Kc Q else Kc (a.put o.dst undef) W := by
  obtain ⟨v1, w1, hr1, h1, hg, hat⟩ := str_run (P := P) base t u o.type e ht hu hinfo v xs y ok hfresh HO hbase hl
  rw [if_pos hw]
  unfold Oper.wp execOp
  simp only [ho, resolve, invoke, builtin, Sem.run_bind, Sem.run_pure, Result.andThen_ok, List.map_toArray, List.map_cons, List.map_nil, hs, hx, hr1]
  exact h v1 w1 h1 (HB.grown hg hbase (R_base HO)) hg hat
end
end Kd
/-- What a cell of the call's begin holds lies in no block that came later. -/
theorem ne_c {w : World} {a : Addr} {v : Value} {n : Nat} (h : w.cell? a = some v) (hn : w.heap.size ≤ n) : a.block ≠ n := Nat.ne_of_lt (Nat.lt_of_lt_of_le (World.block_lt_of_cell? w _ h) hn)
theorem ne_c2 {w : World} {a : Addr} {k : Nat} {v : Value} {n : Nat} (h : w.cell? (a.add k) = some v) (hn : w.heap.size ≤ n) : a.block ≠ n := by have := ne_c h hn; rwa [add_block] at this
/-! What a walk says often, once: the tactic stands in the last argument. -/
theorem go_b {B : Nat} {w w1 W : World} (h : Below B w w1) (k : Below B w w1 → Below B w W := by intro h; repeat (first | (with_reducible first | exact h | apply below_alloc | apply pw_below_drewN | apply below_drew1) | exact h)) : Below B w W := k h
theorem go_b1 {B n1 : Nat} {w w1 W : World} (h : Below B w w1) (g1 : B ≤ n1) (k : Below B w w1 → B ≤ n1 → Below B w W := by intro h g1; repeat (first | (with_reducible first | exact h | apply below_alloc | apply pw_below_drewN | apply below_drew1 | refine below_set ?_ g1) | exact h)) : Below B w W := k h g1
theorem go_b2 {B n1 n2 : Nat} {w w1 W : World} (h : Below B w w1) (g1 : B ≤ n1) (g2 : B ≤ n2) (k : Below B w w1 → B ≤ n1 → B ≤ n2 → Below B w W := by intro h g1 g2; repeat (first | (with_reducible first | exact h | apply below_alloc | apply pw_below_drewN | apply below_drew1 | refine below_set ?_ g1 | refine below_set ?_ g2) | exact h)) : Below B w W := k h g1 g2
theorem go_b3 {B n1 n2 n3 : Nat} {w w1 W : World} (h : Below B w w1) (g1 : B ≤ n1) (g2 : B ≤ n2) (g3 : B ≤ n3) (k : Below B w w1 → B ≤ n1 → B ≤ n2 → B ≤ n3 → Below B w W := by intro h g1 g2 g3; repeat (first | (with_reducible first | exact h | apply below_alloc | apply pw_below_drewN | apply below_drew1 | refine below_set ?_ g1 | refine below_set ?_ g2 | refine below_set ?_ g3) | exact h)) : Below B w W := k h g1 g2 g3
theorem go_k {w1 W : World} {g : Nat} {o : Obj} (h : w1.heap[g]? = some o) (k : w1.heap[g]? = some o → W.heap[g]? = some o := by intro h; (with_reducible repeat (first | refine blk_drewN ?_ _ | refine blk_drew ?_ | refine blk_alloc ?_ _)); exact h) : W.heap[g]? = some o := k h
theorem go_V {α : Type} {d : Kd α} {e base : Nat} {ok : Nat → Prop} {v : Value} {xs : List α} {w1 W : World} (h : Kd.V d e w1 base ok v xs) (k : Kd.V d e w1 base ok v xs → Kd.V d e W base ok v xs := by intro h; (with_reducible repeat (first | apply Kd.V_alloc | apply Kd.V_drewN | apply Kd.V_drew)); exact h) : Kd.V d e W base ok v xs := k h
theorem go_R {α : Type} {d : Kd α} {e base : Nat} {ok : Nat → Prop} {v : Value} {xs : List α} {w1 W : World} (h : Kd.R d e w1 base ok v xs) (k : Kd.R d e w1 base ok v xs → Kd.R d e W base ok v xs := by intro h; (with_reducible repeat (first | apply Kd.R_alloc | apply Kd.R_drewN | apply Kd.R_drew)); exact h) : Kd.R d e W base ok v xs := k h
theorem go_N {α : Type} {d : Kd α} {e base : Nat} {ok : Nat → Prop} {v : Value} {xs : List α} {w1 W : World} (h : Kd.N d e w1 base ok v xs) (k : Kd.N d e w1 base ok v xs → Kd.N d e W base ok v xs := by intro h; (with_reducible repeat (first | apply Kd.N_alloc | apply Kd.N_drewN | apply Kd.N_drew)); exact h) : Kd.N d e W base ok v xs := k h
theorem far_c {w W : World} {a : Addr} {v u : Value} {n j : Nat} (h : w.cell? a = some v) (hn : w.heap.size ≤ n) : (W.setCell ⟨n, j, none⟩ u).cell? a = W.cell? a := cell_far (p := ⟨n, j, none⟩) (ne_c h hn) u
theorem cell_b {w W : World} {a : Addr} {v : Value} (hb : Below w.heap.size w W) (h : w.cell? a = some v) : W.cell? a = some v := (hb.cell (World.block_lt_of_cell? w _ h)).trans h
theorem of_dec {p : Prop} [Decidable p] (h : decide p = true := by first | (with_reducible assumption) | assumption) : p := of_decide_eq_true h
end Go.Proofs.YtnpgadfoohjlnabDoorW.PrintX
