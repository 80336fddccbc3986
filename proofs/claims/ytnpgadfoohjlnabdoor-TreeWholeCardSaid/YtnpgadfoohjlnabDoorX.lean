/- Words of this session's beside the print's own: []byte(s) as a row that is read. No condition. -/
import Derived.Test.YtnpgadfoohjlnabDoorWWords
import Derived.Test.YtnpgadfoohjlnabDoorWLast
import Derived.Test.YtnpgadfoohjlnabDoorWTab
import Derived.Test.YtnpgadfoohjlnabDoorWFour
import Derived.Test.YtnpgadfoohjlnabDoorWQPut
import Derived.Test.YtnpgadfoohjlnabDoorWApart
import Derived.Test.YtnpgadfoohjlnabDoorWArr
import Derived.Test.YtnpgadfoohjlnabDoorWZeros
import Derived.Test.YtnpgadfoohjlnabDoorWFoot
import Derived.Test.YtnpgadfoohjlnabDoorWKept
import Derived.Test.YtnpgadfoohjlnabDoorWShare
import Derived.Test.YtnpgadfoohjlnabDoorWN
import Derived.Test.YtnpgadfoohjlnabDoorWFootNe
import Derived.Test.YtnpgadfoohjlnabDoorWAt
import Derived.Test.YtnpgadfoohjlnabDoorWEqStruct
import Derived.Test.YtnpgadfoohjlnabDoorWRepsOne
import Derived.Test.YtnpgadfoohjlnabDoorWInv
import Derived.Test.YtnpgadfoohjlnabDoorWInvWords
import Derived.Test.YtnpgadfoohjlnabDoorWGuard
import Derived.Test.YtnpgadfoohjlnabDoorWNEv
import Derived.Test.YtnpgadfoohjlnabDoorWMore
import Derived.Lib.ConvBytes
import Derived.Lib.SlBytesConst
import Derived.Below
import Derived.WalkKit
namespace Go.Proofs.YtnpgadfoohjlnabDoorW.PrintX
open Go.RowKit Go.Proofs.YtnpgadfoohjlnabDoorW.PrintWords Go.Proofs.YtnpgadfoohjlnabDoorW.PrintLast Go.Proofs.YtnpgadfoohjlnabDoorW.PrintMore
/-! Words of this session's beside the print's own. -/
/-- Which operations of a region have run, as a number's bits. -/
def bl_ (n k : Nat) : Array Bool := ((List.range n).map (fun i => k.testBit i)).toArray
namespace Kd
open Go.Proofs.YtnpgadfoohjlnabDoorW.PrintWords.Kd Go.Proofs.YtnpgadfoohjlnabDoorW.PrintMore.Kd
theorem cell_blk {w w1 : World} {a : Addr} (hb : w1.heap[a.block]? = w.heap[a.block]?) : w1.cell? a = w.cell? a := by
  unfold World.cell?
  rw [hb]
section
variable {P : Program} {ops : Array Oper} {rest : List Oper} {o : Oper} {a : Act} {Q : Exit → Act → World → Prop} {Kc : Act → World → Prop}
/-- What '[]byte(s)' leaves: a row that is only read, in a block that is new. -/
theorem V_bytes_of (W : World) (e base : Nat) (s : ByteArray) (hs : s.size ≤ 9223372036854775807) : V (Kd.int .u8) e (Lib.bytesWorld W e s) base (fun k => W.heap.size ≤ k) (.slice (some ⟨W.heap.size, 0, none⟩) s.size (grownCap W s.size 0 e)) (bytesOf s) := by
  have hl : (bytesOf s).length = s.size := bytesOf_length s
  refine ⟨some ⟨W.heap.size, 0, none⟩, grownCap W s.size 0 e, by rw [hl], by rw [hl]; exact grownCap_ge W s.size 0 e, ?_⟩
  rw [hl]
  intro W' hW
  have hb : W'.heap[W.heap.size]? = (Lib.bytesWorld W e s).heap[W.heap.size]? := hW _ (Nat.le_refl _) (by rw [Lib.bytesWorld_size]; omega)
  obtain ⟨h1, h2, h3⟩ := bytes_reads W e s hs
  refine C_of_reads (d := (0 : Int)) ⟨h1, h2, fun hn => ?_⟩
  obtain ⟨ad, he, hc⟩ := h3 hn
  refine ⟨ad, he, fun j hj => ?_⟩
  obtain rfl : (⟨W.heap.size, 0, none⟩ : Addr) = ad := Option.some.inj he
  rw [add_plain]
  rw [← hc j hj, add_plain]
  exact cell_blk hb
theorem V_make {w0 W : World} (base e : Nat) (hgd : o.guard = none) {N : Tmp} (_hd : o.dst = some N) (src dst : TypeId) (x : Operand) (ho : o.op = .convert src dst x) (s : ByteArray) (hx : a.eval x = .string s) {u : TypeDesc}
    (hs : P.underlying src = some u) (hd : P.underlying dst = some (.slice e)) (he : P.underlying e = some (.int .u8)) (hm : s.size ≤ 9223372036854775807) (HB : Below base w0 W) (hbase : base ≤ W.heap.size)
    (h : ∀ v1 w1, V (Kd.int .u8) e w1 base (fun k => W.heap.size ≤ k) v1 (bytesOf s) → Below base w0 w1 → W.grownBy w1 none → (∃ b, v1.ownBlock = some b ∧ W.heap.size ≤ b) → wpList P ops Q rest (a.put o.dst v1) w1) : wpList P ops Q (o :: rest) a W := by
  have hr := print_bytes (P := P) src dst e hs hd he s W
  have hb := bytes_below (Below.refl W.heap.size W) (Nat.le_refl _) e s
  refine event_run hgd (v := .slice (some ⟨W.heap.size, 0, none⟩) s.size (grownCap W s.size 0 e)) (w1 := Lib.bytesWorld W e s) ?_ (h _ _ (V_bytes_of W e base s hm) (bytes_below HB hbase e s) (grown_of_below hb none) ⟨W.heap.size, by simp [Value.ownBlock], Nat.le_refl _⟩)
  simp [execOp, ho, hx, hr]
theorem V_make_step {w0 W : World} (base e : Nat) (hw : Region.wanted o (yielded ops a.tmps) = true) {N : Tmp} (_hd : o.dst = some N) (src dst : TypeId) (x : Operand) (ho : o.op = .convert src dst x) (s : ByteArray) (hx : a.eval x = .string s) {u : TypeDesc}
    (hs : P.underlying src = some u) (hd : P.underlying dst = some (.slice e)) (he : P.underlying e = some (.int .u8)) (hm : s.size ≤ 9223372036854775807) (HB : Below base w0 W) (hbase : base ≤ W.heap.size)
    (h : ∀ v1 w1, V (Kd.int .u8) e w1 base (fun k => W.heap.size ≤ k) v1 (bytesOf s) → Below base w0 w1 → W.grownBy w1 none → (∃ b, v1.ownBlock = some b ∧ W.heap.size ≤ b) → Kc (a.put o.dst v1) w1) :
    if Region.wanted o (yielded ops a.tmps) = true then Oper.wp P o a W Kc Q else Kc (a.put o.dst undef) W := by
  have hr := print_bytes (P := P) src dst e hs hd he s W
  have hb := bytes_below (Below.refl W.heap.size W) (Nat.le_refl _) e s
  refine event_step hw (v := .slice (some ⟨W.heap.size, 0, none⟩) s.size (grownCap W s.size 0 e)) (w1 := Lib.bytesWorld W e s) ?_ (h _ _ (V_bytes_of W e base s hm) (bytes_below HB hbase e s) (grown_of_below hb none) ⟨W.heap.size, by simp [Value.ownBlock], Nat.le_refl _⟩)
  simp [execOp, ho, hx, hr]
/-- '[]byte(c)' of a constant: a literal's row, and its mark. -/
theorem V_const {o2 : Oper} {w0 W : World} (base e : Nat) (hg1 : o.guard = none) {N : Tmp} (_hd : o.dst = some N) (hg2 : o2.guard = none) (xs : List Int) (t : TypeId) (x : Operand)
    (hrun : (execOp a.eval o).run P W = .ok (.value (.slice (some ⟨W.heap.size, 0, none⟩) xs.length xs.length)) (W.alloc (.cells (nums .u8 xs).toArray e)))
    (ho : o2.op = .convert t t x) (hx : ∀ v, (a.put o.dst v).eval x = v) (ht : P.underlying t = some (.slice e)) (he : P.underlying e = some (.int .u8)) (hm : xs.length ≤ 9223372036854775807) (HB : Below base w0 W) (hbase : base ≤ W.heap.size)
    (h : ∀ v1 w1, V (Kd.int .u8) e w1 base (fun k => W.heap.size ≤ k) v1 xs → Below base w0 w1 → W.grownBy w1 none → (∃ b, v1.ownBlock = some b ∧ W.heap.size ≤ b) → wpList P ops Q rest ((a.put o.dst v1).put o2.dst v1) w1) : wpList P ops Q (o :: o2 :: rest) a W := by
  have hb0 : Below W.heap.size W (W.alloc (.cells (nums .u8 xs).toArray e ((nums .u8 xs).toArray.size, (nums .u8 xs).toArray.size + 1))) := below_alloc (Below.refl _ _) _
  refine event_run hg1 hrun (event_run hg2 (v := .slice (some ⟨W.heap.size, 0, none⟩) xs.length xs.length) (w1 := W.alloc (.cells (nums .u8 xs).toArray e ((nums .u8 xs).toArray.size, (nums .u8 xs).toArray.size + 1))) ?_ (h _ _ ?_ (HB.alloc hbase _) (grown_of_below hb0 none) ⟨W.heap.size, by simp [Value.ownBlock], Nat.le_refl _⟩))
  · have hr := Lib.run_convert_bytes_const (P := P) W t e (nums .u8 xs).toArray xs.length xs.length ht he
    have hx' := hx (.slice (some ⟨W.heap.size, 0, none⟩) xs.length xs.length)
    simp only [execOp, ho, hx']
    simp [hr]
  · refine ⟨some ⟨W.heap.size, 0, none⟩, xs.length, rfl, Nat.le_refl _, ?_⟩
    intro W' hW
    have hn : ∀ o' : Obj, (W.alloc o').heap[W.heap.size]? = some o' := fun o' => blk_new W o'
    have hb := hW W.heap.size (Nat.le_refl _) (blk_lt (blk_new W _))
    rw [hn] at hb
    refine C_of_reads (d := (0 : Int)) ⟨rfl, hm, fun _ => ⟨_, rfl, fun j hj => ?_⟩⟩
    rw [add_plain, cell_of_row W' W.heap.size j _ _ _ hb]
    have hj' : j < (nums .u8 xs).length := by rw [nums_length]; exact hj
    simp [nums, List.getD_eq_getElem?_getD, List.getElem?_eq_getElem hj]
/-- Appending a string's bytes to a row of one's own: where the new row lies, too. -/
theorem str_run (base : Nat) (t u ty e : TypeId) {W : World} (ht : P.underlying t = some (.slice e)) (hu : P.underlying u = some .string) (hinfo : (P.info? e).map (fun i => (i.zero, i.size, i.bytes)) = some (some (.int .u8 0), 1, 1))
    (v : Value) (xs : List Int) (y : ByteArray) (ok : Nat → Prop) (hfresh : ∀ k, W.heap.size ≤ k → ok k) (HO : (Kd.int .u8).R e W base ok v xs) (hbase : base ≤ W.heap.size) (hl : xs.length + y.size ≤ 140737488355328) :
    ∃ v1 w1, (Builtin.append_ #[t, u] ty #[v, .string y]).run P W = .ok v1 w1 ∧ (Kd.int .u8).R e w1 base ok v1 (xs ++ bytesOf y) ∧ W.grownBy w1 v.ownBlock ∧ (v1.ownBlock = v.ownBlock ∨ ∃ b, v1.ownBlock = some b ∧ W.heap.size ≤ b) := by
  obtain ⟨i0, hi, hzz⟩ := Option.map_eq_some_iff.1 hinfo
  simp only [Prod.mk.injEq] at hzz
  obtain ⟨hz0, hz1, hz2⟩ := hzz
  have hown := own_of_R (enc := Value.int .u8) (h1 := fun _ => rfl) HO
  obtain ⟨v1, w1, hr, hw1, hg, hn⟩ := Lib.run_append_own_string (P := P) W base t u ty e i0 ht hu hi hz0 hz1 hz2 v xs.length _ hown y (by simp only [maxLen]; omega) hl hbase
  have hat : v1.ownBlock = v.ownBlock ∨ ∃ b, v1.ownBlock = some b ∧ W.heap.size ≤ b := by
    rcases hown.2 with ⟨rfl, hx⟩ | ⟨g, cap, cur, rfl, _, hgb, hnc, hcm, hcs, htake⟩
    · by_cases hm : y.size = 0
      · exact .inl (by rw [hn.2 ⟨rfl, hm⟩])
      · rw [run_append_nil_string (P := P) W t u ty e i0 (.int .u8 0) ht hu hi hz0 y (by omega) (by omega) (by rw [hz2]; omega)] at hr
        injection hr with h1 h2
        exact .inr ⟨_, by rw [← h1]; rfl, Nat.le_refl _⟩
    · have hcs' : cur.size = cap := by simpa using hcs
      by_cases hroom : xs.length + y.size ≤ cap
      · rw [Lib.run_append_room_string (P := P) W t u ty e i0 ht hu hi hz1 g xs.length cap cur hgb y hroom (by omega)] at hr
        injection hr with h1 h2
        exact .inl (by rw [← h1]; rfl)
      · rw [Lib.run_append_grow_string (P := P) W t u ty e i0 (.int .u8 0) ht hu hi hz0 ⟨g, 0, none⟩ xs.length cap _ (by rw [hz1]; simpa using hown.1) (hown.cells (g := g) rfl) y (by omega) (by simp only [maxLen] at hcm; omega) (by rw [hz2]; exact growslice_fits (by omega) (by omega))] at hr
        injection hr with h1 h2
        exact .inr ⟨_, by rw [← h1]; rfl, Nat.le_refl _⟩
  have hl2 : (xs ++ bytesOf y).length = xs.length + y.size := by rw [List.length_append, bytesOf_length]
  have hc : encs (Value.int .u8) (xs ++ bytesOf y) = encs (Value.int .u8) xs ++ Lib.strCells y := by
    simp [encs, bytesOf, Lib.strCells]
  refine ⟨v1, w1, hr, R_of_own (h1 := fun _ => rfl) (by rw [hl2, hc]; exact hw1) ?_, hg, hat⟩
  intro k hk
  rcases hat with h | ⟨b, h, hb⟩
  · exact HO.1 k (h ▸ hk)
  · exact hfresh k (by rw [h] at hk; injection hk with hk; omega)
theorem R_append_str {w0 W : World} (base : Nat) (hgd : o.guard = none) (s x : Operand) (t u e : TypeId)
    (ho : o.op = .call { callee := .builtin .append, args := #[s, x], argTypes := #[t, u] })
    (ht : P.underlying t = some (.slice e)) (hu : P.underlying u = some .string) (hinfo : (P.info? e).map (fun i => (i.zero, i.size, i.bytes)) = some (some (.int .u8 0), 1, 1))
    (v : Value) (xs : List Int) (y : ByteArray) (ok : Nat → Prop) (hs : a.eval s = v) (hx : a.eval x = .string y) (hfresh : ∀ k, W.heap.size ≤ k → ok k)
    (HO : (Kd.int .u8).R e W base ok v xs) (HB : Below base w0 W) (hbase : base ≤ W.heap.size) (hl : xs.length + y.size ≤ 140737488355328)
    (h : ∀ v1 w1, (Kd.int .u8).R e w1 base ok v1 (xs ++ bytesOf y) → Below base w0 w1 → W.grownBy w1 v.ownBlock → (v1.ownBlock = v.ownBlock ∨ ∃ b, v1.ownBlock = some b ∧ W.heap.size ≤ b) → wpList P ops Q rest (a.put o.dst v1) w1) :
    wpList P ops Q (o :: rest) a W := by
  obtain ⟨v1, w1, hr1, h1, hg, hat⟩ := str_run (P := P) base t u o.type e ht hu hinfo v xs y ok hfresh HO hbase hl
  refine wpList_plain hgd fun K hK => ?_
  unfold Oper.wp execOp
  simp only [ho, resolve, invoke, builtin, Sem.run_bind, Sem.run_pure, Result.andThen_ok, List.map_toArray, List.map_cons, List.map_nil, hs, hx, hr1]
  exact hK _ _ (h v1 w1 h1 (HB.grown hg hbase (R_base HO)) hg hat)
theorem R_append_str_step {w0 W : World} (base : Nat) (hw : Region.wanted o (yielded ops a.tmps) = true) (s x : Operand) (t u e : TypeId)
    (ho : o.op = .call { callee := .builtin .append, args := #[s, x], argTypes := #[t, u] })
    (ht : P.underlying t = some (.slice e)) (hu : P.underlying u = some .string) (hinfo : (P.info? e).map (fun i => (i.zero, i.size, i.bytes)) = some (some (.int .u8 0), 1, 1))
    (v : Value) (xs : List Int) (y : ByteArray) (ok : Nat → Prop) (hs : a.eval s = v) (hx : a.eval x = .string y) (hfresh : ∀ k, W.heap.size ≤ k → ok k)
    (HO : (Kd.int .u8).R e W base ok v xs) (HB : Below base w0 W) (hbase : base ≤ W.heap.size) (hl : xs.length + y.size ≤ 140737488355328)
    (h : ∀ v1 w1, (Kd.int .u8).R e w1 base ok v1 (xs ++ bytesOf y) → Below base w0 w1 → W.grownBy w1 v.ownBlock → (v1.ownBlock = v.ownBlock ∨ ∃ b, v1.ownBlock = some b ∧ W.heap.size ≤ b) → Kc (a.put o.dst v1) w1) :
    if Region.wanted o (yielded ops a.tmps) = true then Oper.wp P o a W Kc Q else Kc (a.put o.dst undef) W := by
  obtain ⟨v1, w1, hr1, h1, hg, hat⟩ := str_run (P := P) base t u o.type e ht hu hinfo v xs y ok hfresh HO hbase hl
  rw [if_pos hw]
  unfold Oper.wp execOp
  simp only [ho, resolve, invoke, builtin, Sem.run_bind, Sem.run_pure, Result.andThen_ok, List.map_toArray, List.map_cons, List.map_nil, hs, hx, hr1]
  exact h v1 w1 h1 (HB.grown hg hbase (R_base HO)) hg hat
end
end Kd
end Go.Proofs.YtnpgadfoohjlnabDoorW.PrintX
