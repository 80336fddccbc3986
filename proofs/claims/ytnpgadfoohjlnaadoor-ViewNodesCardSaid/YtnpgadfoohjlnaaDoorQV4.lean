/- Where a Lean function of this text answers, the Go function of its name comes to that answer: no other condition. Written by a program of this session out of the translation; Lean checks it. -/
import Derived.Test.YtnpgadfoohjlnaaDoorQV0
namespace Go.Proofs.YtnpgadfoohjlnaaDoor.QV
open Go.RowKit Go.Proofs.YtnpgadfoohjlnaaDoorW.PrintWords Go.Proofs.YtnpgadfoohjlnaaDoorW.PrintLast Go.Proofs.YtnpgadfoohjlnaaDoorW.PrintMore Go.Proofs.YtnpgadfoohjlnaaDoorW.PrintX
attribute [local go_sem] max2_int min2_int max_two min_two max_three min_three max_four min_four   -- for this text's walks alone
set_option linter.unusedVariables false
set_option linter.unusedSimpArgs false

/-! ### cavillaw01_Off: function 14 -/
section
open Go.Extern Go.Stop Go.Extern.Stop
theorem errors_As.vOfP (t : Addr) (w : World) : (callFunc 74 #[.iface 87 (.pointer (some t))]).run Tryd.prog w = .ok (.value (.agg #[.pointer (some ⟨4, 87, none⟩), .pointer (some ⟨w.heap.size, 0, none⟩), .int .u64 150])) (w.alloc (.cells #[.pointer (some t)] 87)) := by kernel_rfl
theorem errors_As.vTypeP (a : Addr) (w : World) : (callFunc 75 #[.agg #[.pointer (some ⟨4, 87, none⟩), .pointer (some a), .int .u64 150]]).run Tryd.prog w = .ok (.value (.iface 127 (.agg #[.pointer (some ⟨4, 87, none⟩)]))) w := by kernel_rfl
theorem errors_As.mKind (h : Value) (w : World) : (Go.method 286 127 (.agg #[h]) "Kind").run Tryd.prog w = .ok (115, h) w := by kernel_rfl
theorem errors_As.mElem (h : Value) (w : World) : (Go.method 286 127 (.agg #[h]) "Elem").run Tryd.prog w = .ok (129, .agg #[h]) w := by kernel_rfl
theorem errors_As.mImpl (h : Value) (w : World) : (Go.method 286 127 (.agg #[h]) "Implements").run Tryd.prog w = .ok (130, .agg #[h]) w := by kernel_rfl
theorem errors_As.mAss (h : Value) (w : World) : (Go.method 286 127 (.agg #[h]) "AssignableTo").run Tryd.prog w = .ok (127, .agg #[h]) w := by kernel_rfl
theorem errors_As.kindP (w : World) : (callFunc 115 #[.pointer (some ⟨4, 87, none⟩)]).run Tryd.prog w = .ok (.value (.int .u8 22)) w := by kernel_rfl
theorem errors_As.kindA (w : World) : (callFunc 115 #[.pointer (some ⟨4, 84, none⟩)]).run Tryd.prog w = .ok (.value (.int .u8 25)) w := by kernel_rfl
theorem errors_As.elemP (w : World) : (callFunc 129 #[.agg #[.pointer (some ⟨4, 87, none⟩)]]).run Tryd.prog w = .ok (.value (.iface 127 (.agg #[.pointer (some ⟨4, 84, none⟩)]))) w := by kernel_rfl
theorem errors_As.implA (w : World) : (callFunc 130 #[.agg #[.pointer (some ⟨4, 84, none⟩)], .iface 127 (.agg #[.pointer (some ⟨4, 27, none⟩)])]).run Tryd.prog w = .ok (.value (.bool true)) w := by kernel_rfl
theorem errors_As.tOfA (v : Value) (w : World) : (callFunc 72 #[.iface 84 v]).run Tryd.prog w = .ok (.value (.iface 127 (.agg #[.pointer (some ⟨4, 84, none⟩)]))) w := by kernel_rfl
theorem errors_As.tOfE (v : Value) (w : World) : (callFunc 72 #[.iface 82 v]).run Tryd.prog w = .ok (.value (.iface 127 (.agg #[.pointer (some ⟨4, 82, none⟩)]))) w := by kernel_rfl
theorem errors_As.assA (w : World) : (callFunc 127 #[.agg #[.pointer (some ⟨4, 84, none⟩)], .iface 127 (.agg #[.pointer (some ⟨4, 84, none⟩)])]).run Tryd.prog w = .ok (.value (.bool true)) w := by kernel_rfl
theorem errors_As.assE (w : World) : (callFunc 127 #[.agg #[.pointer (some ⟨4, 82, none⟩)], .iface 127 (.agg #[.pointer (some ⟨4, 84, none⟩)])]).run Tryd.prog w = .ok (.value (.bool false)) w := by kernel_rfl
theorem errors_As.vOfA (o e : Value) (w : World) : (callFunc 74 #[.iface 84 (.agg #[o, e])]).run Tryd.prog w = .ok (.value (.agg #[.pointer (some ⟨4, 84, none⟩), .pointer (some ⟨w.heap.size, 0, none⟩), .int .u64 153])) (w.alloc (.cells #[o, e] 84)) := by kernel_rfl
theorem errors_As.rlm (z : Sem Value) (f : TypeId → Addr → Nat → Nat → Sem Value) (v : Value) :
  ReflectliteValue.method z f #[v] = (do match ← ReflectliteValue.parts v with | none => z | some (t, a, fl) => f t a fl (fl % 32)) := rfl
theorem errors_As.partsP (a : Addr) (w : World) : (ReflectliteValue.parts (.agg #[.pointer (some ⟨4, 87, none⟩), .pointer (some a), .int .u64 150])).run Tryd.prog w = .ok (some (87, a, 150)) w := by kernel_rfl
theorem errors_As.isNilP (a p : Addr) (W : World) (ha : W.cell? a = some (.pointer (some p))) :
  (callFunc 76 #[.agg #[.pointer (some ⟨4, 87, none⟩), .pointer (some a), .int .u64 150]]).run Tryd.prog W = .ok (.value (.bool false)) W := by
 rw [@run_callFunc_extern Tryd.prog 76 _ (ReflectliteValue.method (ReflectliteValue.valueError "reflectlite.Value.IsNil" 0) ReflectliteValue.isNil) Tryd.func76 (by kernel_rfl) (by kernel_rfl) (by kernel_rfl) (by kernel_rfl), errors_As.rlm]
 simp only [Sem.run_bind, errors_As.partsP, Result.andThen]
 simp [ReflectliteValue.isNil, loadVar, isAgg, underlying, Tryd.underlying87, ha, Result.andThen]
theorem errors_As.elemOfP (w : World) : (Rtype.elem? 87).run Tryd.prog w = .ok (some 84) w := by kernel_rfl
theorem errors_As.mkA (p : Addr) (w : World) : (ReflectliteValue.mk 84 p ReflectliteValue.flagAddr).run Tryd.prog w = .ok (.agg #[.pointer (some ⟨4, 84, none⟩), .pointer (some p), .int .u64 409]) w := by kernel_rfl
theorem errors_As.elemVP (a p : Addr) (W : World) (ha : W.cell? a = some (.pointer (some p))) :
  (callFunc 84 #[.agg #[.pointer (some ⟨4, 87, none⟩), .pointer (some a), .int .u64 150]]).run Tryd.prog W = .ok (.value (.agg #[.pointer (some ⟨4, 84, none⟩), .pointer (some p), .int .u64 409])) W := by
 rw [@run_callFunc_extern Tryd.prog 84 _ (ReflectliteValue.method (ReflectliteValue.valueError "reflectlite.Value.Elem" 0) ReflectliteValue.elem) Tryd.func84 (by kernel_rfl) (by kernel_rfl) (by kernel_rfl) (by kernel_rfl), errors_As.rlm]
 simp only [Sem.run_bind, errors_As.partsP, Result.andThen]
 simp [ReflectliteValue.elem, loadVar, isAgg, underlying, Tryd.underlying87, ha, Result.andThen, errors_As.elemOfP, errors_As.mkA]
theorem errors_As.partsAa (a : Addr) (w : World) : (ReflectliteValue.parts (.agg #[.pointer (some ⟨4, 84, none⟩), .pointer (some a), .int .u64 409])).run Tryd.prog w = .ok (some (84, a, 409)) w := by kernel_rfl
theorem errors_As.partsA (a : Addr) (w : World) : (ReflectliteValue.parts (.agg #[.pointer (some ⟨4, 84, none⟩), .pointer (some a), .int .u64 153])).run Tryd.prog w = .ok (some (84, a, 153)) w := by kernel_rfl
theorem errors_As.directA (w : World) : (Rtype.directlyAssignable 84 84).run Tryd.prog w = .ok true w := by kernel_rfl
theorem errors_As.rls (v x : Value) : ReflectliteValue.set #[v, x] = (do
  let (some (dst, a, fl), some (src, b, _)) := (← ReflectliteValue.parts v, ← ReflectliteValue.parts x)
   | unsupported (.noEntry "extern/(internal/reflectlite.Value).Set.zeroValue")
  if fl / ReflectliteValue.flagAddr % 2 == 0 then unsupported (.noEntry "extern/(internal/reflectlite.Value).Set.unaddressable")
  let val ← loadVar src b
  if ← Rtype.directlyAssignable dst src then storeVar dst a val
  else if ← Rtype.implements dst src then
   if (← Rtype.kind src) == 20 then
    match val with
    | .nilIface => unsupported (.noEntry "extern/reflectlite: a nil value of one interface type handed on as a value of another")
    | _ => storeVar dst a val
   else storeVar dst a (.iface src val)
  else panicString ("reflectlite.Set: value of type " ++ (← Rtype.spelt src) ++ " is not assignable to type " ++ (← Rtype.spelt dst))
  pure (.tuple #[])) := rfl
theorem errors_As.loadA (o e : Value) (b : Nat) (W : World) (hb0 : W.cell? ⟨b, 0, none⟩ = some o) (hb1 : W.cell? ⟨b, 1, none⟩ = some e) : (loadVar 84 ⟨b, 0, none⟩).run Tryd.prog W = .ok (.agg #[o, e]) W := by
 have h := run_loadCells_list (P := Tryd.prog) (w := W) ⟨b, 0, none⟩ [o, e] (fun j v hj => by
  match j, hj with
  | 0, hj => cases hj; exact hb0
  | 1, hj => cases hj; exact hb1)
 simp [loadVar, isAgg, underlying, Tryd.underlying84]
 simp only [List.length_cons, List.length_nil, Nat.zero_add, Nat.reduceAdd] at h
 rw [h]
 rfl
theorem errors_As.storeA (o e o' e' : Value) (t : Nat) (W : World) (h1 : o.oneCell' = true) (h2 : e.oneCell' = true) (ht0 : W.cell? ⟨t, 0, none⟩ = some o') (ht1 : W.cell? ⟨t, 1, none⟩ = some e') (hf0 : W.frozen? ⟨t, 0, none⟩ = false) (hf1 : W.frozen? ⟨t, 1, none⟩ = false) :
  (storeVar 84 ⟨t, 0, none⟩ (.agg #[o, e])).run Tryd.prog W = .ok () ((W.setCell ⟨t, 0, none⟩ o).setCell ⟨t, 1, none⟩ e) := by
 have hc : (W.setCell ⟨t, 0, none⟩ o).cell? ⟨t, 1, none⟩ = some e' := (World.cell?_setCell_other W ⟨t, 0, none⟩ ⟨t, 1, none⟩ o (by simp)).trans ht1
 have hz : (W.setCell ⟨t, 0, none⟩ o).frozen? ⟨t, 1, none⟩ = false := by rw [World.frozen?_setCell]; exact hf1
 simp [storeVar, Value.cells, storeCells, Addr.add]
 rw [run_store Tryd.prog W _ _ _ h1]
 simp [ht0, hf0, Result.andThen]
 rw [run_store Tryd.prog _ _ _ _ h2]
 simp [hc, hz]
theorem errors_As.setA (o e o' e' : Value) (t b : Nat) (W : World) (h1 : o.oneCell' = true) (h2 : e.oneCell' = true) (hb0 : W.cell? ⟨b, 0, none⟩ = some o) (hb1 : W.cell? ⟨b, 1, none⟩ = some e) (ht0 : W.cell? ⟨t, 0, none⟩ = some o') (ht1 : W.cell? ⟨t, 1, none⟩ = some e') (hf0 : W.frozen? ⟨t, 0, none⟩ = false) (hf1 : W.frozen? ⟨t, 1, none⟩ = false) :
  (callFunc 85 #[.agg #[.pointer (some ⟨4, 84, none⟩), .pointer (some ⟨t, 0, none⟩), .int .u64 409], .agg #[.pointer (some ⟨4, 84, none⟩), .pointer (some ⟨b, 0, none⟩), .int .u64 153]]).run Tryd.prog W = .ok (.value (.tuple #[])) ((W.setCell ⟨t, 0, none⟩ o).setCell ⟨t, 1, none⟩ e) := by
 rw [@run_callFunc_extern Tryd.prog 85 _ ReflectliteValue.set Tryd.func85 (by kernel_rfl) (by kernel_rfl) (by kernel_rfl) (by kernel_rfl), errors_As.rls]
 simp only [Sem.run_bind, errors_As.partsAa, errors_As.partsA, Result.andThen]
 simp [ReflectliteValue.flagAddr, errors_As.loadA o e b W hb0 hb1, Result.andThen, errors_As.directA, errors_As.storeA o e o' e' t W h1 h2 ht0 ht1 hf0 hf1]
theorem errors_As.noAs84 (v : Value) (xT : TypeId) (w : World) : (Instr.typeAssert (.iface 82 v) xT 139 true).run Tryd.prog w = .ok (.tuple #[.nilIface, .bool false]) w := Go.run_typeAssert_lacksB Tryd.underlying139 (by kernel_rfl) (by kernel_rfl) v xT w
theorem errors_As.noUnwrapE (v : Value) (xT : TypeId) (w : World) : (Instr.typeAssert (.iface 82 v) xT 132 true).run Tryd.prog w = .ok (.tuple #[.nilIface, .bool false]) w := Go.run_typeAssert_lacksB Tryd.underlying132 (by kernel_rfl) (by kernel_rfl) v xT w
theorem errors_As.noUnwrapsE (v : Value) (xT : TypeId) (w : World) : (Instr.typeAssert (.iface 82 v) xT 134 true).run Tryd.prog w = .ok (.tuple #[.nilIface, .bool false]) w := Go.run_typeAssert_lacksB Tryd.underlying134 (by kernel_rfl) (by kernel_rfl) v xT w
/-- errors.As(At{o, e}, &a): the variable gets the error. -/
theorem errors_As.as_hit (B t : Nat) (o e o' e' : Value) (w : World) (ho : o.oneCell' = true) (he : e.oneCell' = true) (hg : w.cell? ⟨0, 0, none⟩ = some (.iface 127 (.agg #[.pointer (some ⟨4, 27, none⟩)]))) (ht : w.heap[t]? = some (.cells #[o', e'] 84 (0, 0))) (hB : B ≤ t) (hBw : B ≤ w.heap.size) :
  Calls Tryd.prog 54 #[.iface 84 (.agg #[o, e]), .iface 87 (.pointer (some ⟨t, 0, none⟩))] w fun ev w' => ev = .returned (.bool true) ∧ w'.heap[t]? = some (.cells #[o, e] 84 (0, 0)) ∧ Below B w w' := by
 have f1 := errors_As.vOfP
 have f2 := errors_As.vTypeP
 have f3 := errors_As.mKind
 have f4 := errors_As.mElem
 have f5 := errors_As.mImpl
 have f6 := errors_As.mAss
 have f7 := errors_As.kindP
 have f8 := errors_As.kindA
 have f9 := errors_As.elemP
 have f10 := errors_As.implA
 have f11 := errors_As.tOfA
 have f12 := errors_As.assA
 have f13 := errors_As.vOfA
 have htl : t < w.heap.size := by
  rcases Nat.lt_or_ge t w.heap.size with h | h
  ·exact h
  ·rw [Array.getElem?_eq_none h] at ht
   cases ht
 have hlt : 0 < w.heap.size := by omega
 have ht0 : w.cell? ⟨t, 0, none⟩ = some o' := by simp [World.cell?, ht]
 have ht1 : w.cell? ⟨t, 1, none⟩ = some e' := by simp [World.cell?, ht]
 have hf0 : w.frozen? ⟨t, 0, none⟩ = false := by simp [World.frozen?, ht]
 have hf1 : w.frozen? ⟨t, 1, none⟩ = false := by simp [World.frozen?, ht]
 obtain ⟨w1, hw1⟩ : ∃ w1, w1 = w.alloc (.cells #[.pointer (some ⟨t, 0, none⟩)] 87) := ⟨_, rfl⟩
 obtain ⟨w2, hw2⟩ : ∃ w2, w2 = w1.alloc (.cells #[.pointer (some ⟨4, 87, none⟩), .pointer (some ⟨w.heap.size, 0, none⟩), .int .u64 150] 114) := ⟨_, rfl⟩
 obtain ⟨w3, hw3⟩ : ∃ w3, w3 = w2.alloc (.cells #[.pointer (some ⟨4, 87, none⟩), .pointer (some ⟨w.heap.size, 0, none⟩), .int .u64 150] 114) := ⟨_, rfl⟩
 obtain ⟨w4, hw4⟩ : ∃ w4, w4 = w3.alloc (.cells #[o, e] 84) := ⟨_, rfl⟩
 have s1 : w1.heap.size = w.heap.size + 1 := by rw [hw1]; simp
 have s2 : w2.heap.size = w.heap.size + 2 := by rw [hw2]; simp [s1]
 have s3 : w3.heap.size = w.heap.size + 3 := by rw [hw3]; simp [s2]
 have b1 : Below w.heap.size w w1 := by rw [hw1]; exact (Below.refl _ _).alloc (Nat.le_refl _) _
 have b2 : Below w.heap.size w w2 := by rw [hw2]; exact b1.alloc (by omega) _
 have b3 : Below w.heap.size w w3 := by rw [hw3]; exact b2.alloc (by omega) _
 have b4 : Below w.heap.size w w4 := by rw [hw4]; exact b3.alloc (by omega) _
 have c1 : w1.cell? ⟨w.heap.size, 0, none⟩ = some (.pointer (some ⟨t, 0, none⟩)) := by rw [hw1, World.cell?_alloc_at _ _ _ _ (by simp)]; rfl
 have c2 : w2.cell? ⟨w.heap.size, 0, none⟩ = some (.pointer (some ⟨t, 0, none⟩)) := by rw [hw2, World.cell?_alloc_lt _ _ _ (by simp; omega)]; exact c1
 have c3 : w3.cell? ⟨w.heap.size, 0, none⟩ = some (.pointer (some ⟨t, 0, none⟩)) := by rw [hw3, World.cell?_alloc_lt _ _ _ (by simp; omega)]; exact c2
 have g2 : w2.cell? ⟨0, 0, none⟩ = some (.iface 127 (.agg #[.pointer (some ⟨4, 27, none⟩)])) := (b2.cell (p := ⟨0, 0, none⟩) hlt).trans hg
 have n2 := errors_As.isNilP ⟨w.heap.size, 0, none⟩ ⟨t, 0, none⟩ w2 c2
 have el := errors_As.elemVP ⟨w.heap.size, 0, none⟩ ⟨t, 0, none⟩ w3 c3
 have d0 : w4.cell? ⟨w3.heap.size, 0, none⟩ = some o := by rw [hw4, World.cell?_alloc_at _ _ _ _ (by simp)]; rfl
 have d1 : w4.cell? ⟨w3.heap.size, 1, none⟩ = some e := by rw [hw4, World.cell?_alloc_at _ _ _ _ (by simp)]; rfl
 have st := errors_As.setA o e o' e' t w3.heap.size w4 ho he d0 d1 ((b4.cell (p := ⟨t, 0, none⟩) htl).trans ht0) ((b4.cell (p := ⟨t, 1, none⟩) htl).trans ht1) ((b4.frozen (p := ⟨t, 0, none⟩) htl).trans hf0) ((b4.frozen (p := ⟨t, 1, none⟩) htl).trans hf1)
 have k4 : w4.heap[t]? = some (.cells #[o', e'] 84 (0, 0)) := (b4.block t htl).trans ht
 rw [hw4, hw3, hw2, hw1] at st
 rw [hw3, hw2, hw1] at el
 rw [hw2, hw1] at n2 g2
 simp only [World.size_alloc] at st el n2 g2
 go_enter Tryd.func54, Tryd.ntmps54
 go_wp2
 refine wp_loop_rounds 1 ?_
 rw [rounds_succ]
 go_wp2
 go_ret
 have q4 := blk_put (blk_put k4 0 o rfl) 1 e rfl
 have q5 := ((b4.mono hBw).setCell (p := ⟨t, 0, none⟩) hB o).setCell (p := ⟨t, 1, none⟩) hB e
 rw [hw4, hw3, hw2, hw1] at q4 q5
 exact ⟨rfl, q4, q5⟩
/-- errors.As(number, &a): no. -/
theorem errors_As.as_miss (t : Nat) (c : Int) (o' e' : Value) (w : World) (hg : w.cell? ⟨0, 0, none⟩ = some (.iface 127 (.agg #[.pointer (some ⟨4, 27, none⟩)]))) (ht : w.heap[t]? = some (.cells #[o', e'] 84 (0, 0))) :
  Calls Tryd.prog 54 #[.iface 82 (.int .i64 c), .iface 87 (.pointer (some ⟨t, 0, none⟩))] w fun ev w' => ev = .returned (.bool false) ∧ Below w.heap.size w w' := by
 have f1 := errors_As.vOfP
 have f2 := errors_As.vTypeP
 have f3 := errors_As.mKind
 have f4 := errors_As.mElem
 have f5 := errors_As.mImpl
 have f6 := errors_As.mAss
 have f7 := errors_As.kindP
 have f8 := errors_As.kindA
 have f9 := errors_As.elemP
 have f10 := errors_As.implA
 have f11 := errors_As.tOfE
 have f12 := errors_As.assE
 have f13 := errors_As.noAs84
 have f14 := errors_As.noUnwrapE
 have f15 := errors_As.noUnwrapsE
 have htl : t < w.heap.size := by
  rcases Nat.lt_or_ge t w.heap.size with h | h
  ·exact h
  ·rw [Array.getElem?_eq_none h] at ht
   cases ht
 have hlt : 0 < w.heap.size := by omega
 obtain ⟨w1, hw1⟩ : ∃ w1, w1 = w.alloc (.cells #[.pointer (some ⟨t, 0, none⟩)] 87) := ⟨_, rfl⟩
 obtain ⟨w2, hw2⟩ : ∃ w2, w2 = w1.alloc (.cells #[.pointer (some ⟨4, 87, none⟩), .pointer (some ⟨w.heap.size, 0, none⟩), .int .u64 150] 114) := ⟨_, rfl⟩
 obtain ⟨w3, hw3⟩ : ∃ w3, w3 = w2.alloc (.cells #[.pointer (some ⟨4, 87, none⟩), .pointer (some ⟨w.heap.size, 0, none⟩), .int .u64 150] 114) := ⟨_, rfl⟩
 have s1 : w1.heap.size = w.heap.size + 1 := by rw [hw1]; simp
 have s2 : w2.heap.size = w.heap.size + 2 := by rw [hw2]; simp [s1]
 have b1 : Below w.heap.size w w1 := by rw [hw1]; exact (Below.refl _ _).alloc (Nat.le_refl _) _
 have b2 : Below w.heap.size w w2 := by rw [hw2]; exact b1.alloc (by omega) _
 have b3 : Below w.heap.size w w3 := by rw [hw3]; exact b2.alloc (by omega) _
 have c1 : w1.cell? ⟨w.heap.size, 0, none⟩ = some (.pointer (some ⟨t, 0, none⟩)) := by rw [hw1, World.cell?_alloc_at _ _ _ _ (by simp)]; rfl
 have c2 : w2.cell? ⟨w.heap.size, 0, none⟩ = some (.pointer (some ⟨t, 0, none⟩)) := by rw [hw2, World.cell?_alloc_lt _ _ _ (by simp; omega)]; exact c1
 have g2 : w2.cell? ⟨0, 0, none⟩ = some (.iface 127 (.agg #[.pointer (some ⟨4, 27, none⟩)])) := (b2.cell (p := ⟨0, 0, none⟩) hlt).trans hg
 have n2 := errors_As.isNilP ⟨w.heap.size, 0, none⟩ ⟨t, 0, none⟩ w2 c2
 rw [hw2, hw1] at n2 g2
 go_enter Tryd.func54, Tryd.ntmps54
 go_wp2
 refine wp_loop_rounds 1 ?_
 rw [rounds_succ]
 go_wp2
 go_ret
 have q5 := b3
 rw [hw3, hw2, hw1] at q5
 exact ⟨rfl, q5⟩
end
def cavillaw01_Off.f (a0 : Option Er) : Option Int := match a0 with
 | none => some (-1)
 | some (.no _) => some (-1)
 | some (.at_ o _) => some o
theorem cavillaw01_Off.one (e : Er) : (Value.iface (erT e) (erV e)).oneCell' = true := rfl
theorem cavillaw01_Off.calls (a0 : Option Er) (r : Int) (w : World) (hG : GL_ w) (h : cavillaw01_Off.f a0 = some r) :
  Calls Tryd.prog 14 #[errW a0] w fun e w' => e = .returned (.int .i64 r) ∧ Below w.heap.size w w' := by
 have hu := Tryd.underlying84
 rcases a0 with _ | (c | ⟨o, e⟩)
 ·cases h
  simp only [errW_none]
  go_enter Tryd.func14, Tryd.ntmps14
  go_wp2_with (first | ((with_reducible refine gate_dst (N := 3) rfl ?_); refine box_event ?hg (N := 3) ?hd (cs := #[.int .i64 0, .nilIface]) (t := 84) ?hr ?_; (case hd => rfl); (case hg => rfl); (case hr => first | (go_simp; done) | (go_simp; rfl)); intro t egt w2 hxt hbt; have sgt := Nat.le_of_eq egt.symm; clear egt))
  go_ret
  exact ⟨rfl, hbt⟩
 ·cases h
  simp only [errW_some, erT_no, erV_no]
  go_enter Tryd.func14, Tryd.ntmps14
  go_wp2_with (first | ((with_reducible refine gate_dst (N := 3) rfl ?_); refine box_event ?hg (N := 3) ?hd (cs := #[.int .i64 0, .nilIface]) (t := 84) ?hr ?_; (case hd => rfl); (case hg => rfl); (case hr => first | (go_simp; done) | (go_simp; rfl)); intro t egt w2 hxt hbt; have sgt := Nat.le_of_eq egt.symm; clear egt) | (go_at_call 54; (refine (errors_As.as_miss t c _ _ _ (GL_below hG hbt) hxt).mono ?_); rintro e_ w3 ⟨rfl, hb3⟩))
  go_ret
  exact ⟨rfl, hbt.trans (hb3.mono hbt.size)⟩
 ·cases h
  simp only [errW_some, erT_at, erV_at]
  go_enter Tryd.func14, Tryd.ntmps14
  go_wp2_with (first | ((with_reducible refine gate_dst (N := 3) rfl ?_); refine box_event ?hg (N := 3) ?hd (cs := #[.int .i64 0, .nilIface]) (t := 84) ?hr ?_; (case hd => rfl); (case hg => rfl); (case hr => first | (go_simp; done) | (go_simp; rfl)); intro t egt w2 hxt hbt; have sgt := Nat.le_of_eq egt.symm; clear egt) | (go_at_call 54; (refine (errors_As.as_hit w.heap.size t (.int .i64 _) (.iface (erT e) (erV e)) _ _ _ rfl rfl (GL_below hG hbt) hxt sgt hbt.size).mono ?_); rintro e_ w3 ⟨rfl, hx3, hb3⟩; have q0 := blk_cell hx3 0; simp only [List.getElem?_toArray, List.getElem?_cons_zero] at q0))
  go_ret
  exact ⟨rfl, hbt.trans hb3⟩

/-! ### cavillaw13_Few: function 10 -/
def cavillaw13_Few.l0 : Nat → Int → List (S33) → List (S33) → Option ((List (S33)))
 | 0, _, _, _ => none
 | k + 1, x4, x119000, x121000 => if x4 < (x119000.length : Int) then (if x4 < 40 then (if 0 ≤ x4 then (if 0 ≤ (mn (((rd_T33 x119000 x4).f3).length : Int) 20) then (if (mn (((rd_T33 x119000 x4).f3).length : Int) 20) ≤ (((rd_T33 x119000 x4).f3).length : Int) then (if x121000.length < 2932031007402 then (cavillaw13_Few.l0 k (wrap64 (x4 + 1)) x119000 (x121000 ++ [(⟨(rd_T33 x119000 x4).f0, (rd_T33 x119000 x4).f1, (rd_T33 x119000 x4).f2, (((rd_T33 x119000 x4).f3).take ((mn (((rd_T33 x119000 x4).f3).length : Int) 20) : Int).toNat)⟩ : S33)])) else (none)) else (none)) else (none)) else (none)) else (some x121000)) else (some x121000)
def cavillaw13_Few.f (k : Nat) (l0_0 : List (S33)) : Option ((List (S33))) := cavillaw13_Few.l0 k 0 l0_0 ([] : List (S33))
theorem cavillaw13_Few.mono_l : ∀ k, (∀ y0 y1 y2, LeO (cavillaw13_Few.l0 k y0 y1 y2) (cavillaw13_Few.l0 (k + 1) y0 y1 y2))
 | 0 => fun _ _ _ r h => by simp [cavillaw13_Few.l0] at h
 | k + 1 => by
  have ih0 := cavillaw13_Few.mono_l k
  ·intro y0 y1 y2
   unfold cavillaw13_Few.l0
   repeat' first
   | (with_reducible exact ih0 _ _ _)
   | (with_reducible exact LeO.refl _)
   | (with_reducible exact LeO.none _)
   | (with_reducible refine LeO.ite ?_ ?_)
   | (with_reducible refine LeO.bind ?_ (fun _ => ?_))
   | exact ih0 _ _ _
   | exact LeO.none _
   | refine LeO.ite ?_ ?_
   | refine LeO.bind ?_ (fun _ => ?_)
theorem cavillaw13_Few.mono : ∀ a0 k, LeO (cavillaw13_Few.f k a0) (cavillaw13_Few.f (k + 1) a0) := by
 intro a0 k
 have ih0 := cavillaw13_Few.mono_l k
 unfold cavillaw13_Few.f
 repeat' first
   | (with_reducible exact ih0 _ _ _)
   | (with_reducible exact LeO.refl _)
   | (with_reducible exact LeO.none _)
   | (with_reducible refine LeO.ite ?_ ?_)
   | (with_reducible refine LeO.bind ?_ (fun _ => ?_))
   | exact ih0 _ _ _
   | exact LeO.none _
   | refine LeO.ite ?_ ?_
   | refine LeO.bind ?_ (fun _ => ?_)
set_option maxHeartbeats 8000000 in
set_option maxRecDepth 100000 in
theorem cavillaw13_Few.calls (k : Nat) (P0_0_ : Nat → Prop) (A0_0 : Option Addr) (c0_0 : Nat) (l0_0 : List (S33)) (r : List (S33)) (w : World) (hs0_0 : Kd.V k33 33 w w.heap.size (fun k_ => P0_0_ k_) (.slice A0_0 l0_0.length c0_0) l0_0) (h : cavillaw13_Few.f k l0_0 = some r) :
  Calls Tryd.prog 10 #[.agg #[.slice A0_0 l0_0.length c0_0]] w fun e w' => ∃ v0_ : Value, e = .returned (.agg #[v0_]) ∧ Kd.N k33 33 w' w.heap.size (fun k_ => (P0_0_ k_ ∨ w.heap.size ≤ k_)) v0_ r ∧ Below w.heap.size w w' := by
 have hu24 := Tryd.underlying24
 have hu33 := Tryd.underlying33
 have HO0_0 := Aside0.mk (show Kd.V k33 33 w w.heap.size (fun k_ => (P0_0_ k_ ∨ w.heap.size ≤ k_)) (.slice A0_0 l0_0.length c0_0) l0_0 from Kd.V_mono hs0_0 (fun k_ hk => .inl hk))
 have HB := Aside0.mk (Below.refl w.heap.size w)
 have H : (cavillaw13_Few.l0 k 0 l0_0 ([] : List (S33))) = some r := h
 clear h
 have H' := Aside0.mk H
 clear H
 go_enter Tryd.func10, Tryd.ntmps10
 go_wp2_with (first | ((with_reducible refine gate_dst (N := 1) rfl ?_); refine box_event ?hg (N := 1) ?hd (cs := #[.slice A0_0 l0_0.length c0_0]) (t := 24) ?hr ?_; (case hd => rfl); (case hg => rfl); (case hr => first | (go_simp; done) | (go_simp; rfl)); intro gb118 hg w2 hbox hb; have n0_ := Aside0.mk (Kd.V_below (Kd.V_elderB (go_V HO0_0.out) gb118 (Nat.le_of_eq hg.symm)) hb); have n1_ := Aside0.mk (below_step (go_b HB.out) hb); have n2_ := Aside0.mk (hbox); have n3_ := Aside0.mk ((by rw [hg]; exact (below_size (go_b HB.out)) : w.heap.size ≤ gb118)); have n4_ := n3_; clear HO0_0; clear HB; have HO0_0 := n0_; have HB := n1_; have BK118 := n2_; have GW118 := n3_; have GE118 := n4_; clear n0_ n1_ n2_ n3_ n4_; clear hb hbox hg) | ((with_reducible refine gate_dst (N := 2) rfl ?_); refine box_event ?hg (N := 2) ?hd (cs := #[.slice none 0 0]) (t := 24) ?hr ?_; (case hd => rfl); (case hg => rfl); (case hr => first | (go_simp; done) | (go_simp; rfl)); intro gb119 hg w3 hbox hb; have n0_ := Aside0.mk (Kd.V_below (Kd.V_elderB (go_V HO0_0.out) gb119 (Nat.le_of_eq hg.symm)) hb); have n1_ := Aside0.mk (blk_below (g := gb118) (o := .cells #[.slice A0_0 l0_0.length c0_0] 24 (0, 0)) (go_k BK118.out) hb); have n2_ := Aside0.mk (below_step (go_b1 HB.out GE118.out) hb); have n3_ := Aside0.mk (hbox); have n4_ := Aside0.mk ((by rw [hg]; exact (below_size (go_b1 HB.out GE118.out)) : w.heap.size ≤ gb119)); have n5_ := n4_; have n6_ := Aside0.mk ((by rw [hg]; exact Nat.ne_of_lt (blk_lt (g := gb118) (o := .cells #[.slice A0_0 l0_0.length c0_0] 24 (0, 0)) (go_k BK118.out)) : gb118 ≠ gb119)); have n7_ := Aside0.mk ((by rw [hg]; exact Nat.ne_of_gt (blk_lt (g := gb118) (o := .cells #[.slice A0_0 l0_0.length c0_0] 24 (0, 0)) (go_k BK118.out)) : gb119 ≠ gb118)); clear HO0_0; clear BK118; clear HB; have HO0_0 := n0_; have BK118 := n1_; have HB := n2_; have BK119 := n3_; have GW119 := n4_; have GE119 := n5_; have NB118_119 := n6_; have NB119_118 := n7_; clear n0_ n1_ n2_ n3_ n4_ n5_ n6_ n7_; clear hb hbox hg) | ((with_reducible refine gate_dst (N := 3) rfl ?_); refine box_event ?hg (N := 3) ?hd (cs := #[.slice none 0 0]) (t := 24) ?hr ?_; (case hd => rfl); (case hg => rfl); (case hr => first | (go_simp; done) | (go_simp; rfl)); intro gb120 hg w4 hbox hb; have n0_ := Aside0.mk (Kd.V_below (Kd.V_elderB (go_V HO0_0.out) gb120 (Nat.le_of_eq hg.symm)) hb); have n1_ := Aside0.mk (blk_below (g := gb118) (o := .cells #[.slice A0_0 l0_0.length c0_0] 24 (0, 0)) (go_k BK118.out) hb); have n2_ := Aside0.mk (blk_below (g := gb119) (o := .cells #[.slice none 0 0] 24 (0, 0)) (go_k BK119.out) hb); have n3_ := Aside0.mk (below_step (go_b2 HB.out GE118.out GE119.out) hb); have n4_ := Aside0.mk (hbox); have n5_ := Aside0.mk ((by rw [hg]; exact (below_size (go_b2 HB.out GE118.out GE119.out)) : w.heap.size ≤ gb120)); have n6_ := n5_; have n7_ := Aside0.mk ((by rw [hg]; exact Nat.ne_of_lt (blk_lt (g := gb118) (o := .cells #[.slice A0_0 l0_0.length c0_0] 24 (0, 0)) (go_k BK118.out)) : gb118 ≠ gb120)); have n8_ := Aside0.mk ((by rw [hg]; exact Nat.ne_of_gt (blk_lt (g := gb118) (o := .cells #[.slice A0_0 l0_0.length c0_0] 24 (0, 0)) (go_k BK118.out)) : gb120 ≠ gb118)); have n9_ := Aside0.mk ((by rw [hg]; exact Nat.ne_of_lt (blk_lt (g := gb119) (o := .cells #[.slice none 0 0] 24 (0, 0)) (go_k BK119.out)) : gb119 ≠ gb120)); have n10_ := Aside0.mk ((by rw [hg]; exact Nat.ne_of_gt (blk_lt (g := gb119) (o := .cells #[.slice none 0 0] 24 (0, 0)) (go_k BK119.out)) : gb120 ≠ gb119)); clear HO0_0; clear BK118; clear BK119; clear HB; have HO0_0 := n0_; have BK118 := n1_; have BK119 := n2_; have HB := n3_; have BK120 := n4_; have GW120 := n5_; have GE120 := n6_; have NB118_120 := n7_; have NB120_118 := n8_; have NB119_120 := n9_; have NB120_119 := n10_; clear n0_ n1_ n2_ n3_ n4_ n5_ n6_ n7_ n8_ n9_ n10_; clear hb hbox hg))
 go_loopg [4] k (fun kq v4 w' => ∃ (x4_1 : Int) (x121000_1 : List (S33)) (u121000 : Value), v4 = .int .i64 x4_1 ∧ Aside0 (cavillaw13_Few.l0 kq x4_1 l0_0 x121000_1 = some r) ∧ Aside0 (kq ≤ k) ∧ Aside0 (Kd.V k33 33 w' w.heap.size (fun k_ => (P0_0_ k_ ∨ w.heap.size ≤ k_) ∧ some k_ ≠ (u121000 : Value).ownBlock ∧ k_ ≠ gb118 ∧ k_ ≠ gb119 ∧ k_ ≠ gb120) (.slice A0_0 l0_0.length c0_0) l0_0) ∧ Aside0 (Kd.N k33 33 w' w.heap.size (fun k_ => (P0_0_ k_ ∨ w.heap.size ≤ k_) ∧ k_ ≠ gb118 ∧ k_ ≠ gb119 ∧ k_ ≠ gb120) u121000 x121000_1) ∧ Aside0 (w'.heap[gb118]? = some (.cells #[(.slice A0_0 l0_0.length c0_0)] 24 (0, 0))) ∧ Aside0 (w'.heap[gb119]? = some (.cells #[(.slice none 0 0)] 24 (0, 0))) ∧ Aside0 (w'.heap[gb120]? = some (.cells #[u121000] 24 (0, 0))) ∧ Aside0 (Below w.heap.size w w'))
 case atStart => exact ⟨(0), (([] : List (S33))), (.slice none 0 0), (by first | rfl | (simp; done) | (simp [*]; done)), H', ⟨Nat.le_refl _⟩, ⟨by (with_reducible repeat (first | apply Kd.V_alloc | apply Kd.V_drewN | apply Kd.V_drew)); exact Kd.V_mono HO0_0.out (fun _ hk => ⟨hk.1.1.1, ⟨(by simp [Value.ownBlock]), ⟨hk.1.1.2, ⟨hk.1.2, hk.2⟩⟩⟩⟩)⟩, ⟨by first | exact Kd.S_nil _ _ _ _ _ | exact Kd.N_nil _ _ _ _ _ | exact Kd.V_nil _ _ _ _ _ | exact Kd.Q_nil _ _ _ _ _ | exact Kd.R_nil _ _ _ _ _⟩, ⟨by (with_reducible repeat (first | refine blk_drewN ?_ _ | refine blk_drew ?_ | refine blk_alloc ?_ _)); exact BK118.out⟩, ⟨by (with_reducible repeat (first | refine blk_drewN ?_ _ | refine blk_drew ?_ | refine blk_alloc ?_ _)); exact BK119.out⟩, ⟨by (with_reducible repeat (first | refine blk_drewN ?_ _ | refine blk_drew ?_ | refine blk_alloc ?_ _)); exact BK120.out⟩, ⟨by repeat (first | (with_reducible first | exact HB.out | apply below_alloc | apply pw_below_drewN | apply below_drew1 | refine below_set ?_ GE118.out | refine below_set ?_ GE119.out | refine below_set ?_ GE120.out) | exact HB.out)⟩⟩
 case round =>
  clear H'
  try clear c1
  try clear p2
  obtain ⟨x4_1, x121000_1, u121000, rfl, HA, HK1, HO_119000, HO_121000, BK118, BK119, BK120, HB⟩ := hrel
  cases gk with
  | zero => exact absurd HA.out (by simp [cavillaw13_Few.l0])
  | succ k1 =>
   have H := HA.out
   clear HA
   simp only [cavillaw13_Few.l0] at H
   by_cases c5 : x4_1 < (l0_0.length : Int)
   ·rw [if_pos c5] at H
    have c5b0 : decide (x4_1 < (l0_0.length : Int)) = true := decide_eq_true c5
    clear c5
    by_cases c6 : x4_1 < 40
    ·rw [if_pos c6] at H
     have c6b0 : decide (x4_1 < 40) = true := decide_eq_true c6
     clear c6
     by_cases c7 : 0 ≤ x4_1
     ·rw [if_pos c7] at H
      have c7b0 : decide (0 ≤ x4_1) = true := decide_eq_true c7
      clear c7
      obtain ⟨ji8, hji8⟩ : ∃ j_ : Int, (mn (((rd_T33 l0_0 x4_1).f3).length : Int) 20) = j_ := ⟨_, rfl⟩
      replace H : (if 0 ≤ (ji8) then (if (ji8) ≤ (((rd_T33 l0_0 x4_1).f3).length : Int) then (if x121000_1.length < 2932031007402 then (cavillaw13_Few.l0 k1 (wrap64 (x4_1 + 1)) l0_0 (x121000_1 ++ [(⟨(rd_T33 l0_0 x4_1).f0, (rd_T33 l0_0 x4_1).f1, (rd_T33 l0_0 x4_1).f2, (((rd_T33 l0_0 x4_1).f3).take ((ji8) : Int).toNat)⟩ : S33)])) else (none)) else (none)) else (none)) = some r := by first | (rw [hji8] at H; exact H) | (simp only [hji8] at H ⊢; exact H)
      have hji8_ : (if 20 < (((rd_T33 l0_0 x4_1).f3).length : Int) then 20 else (((rd_T33 l0_0 x4_1).f3).length : Int)) = ji8 := hji8
      by_cases c9 : 0 ≤ (ji8)
      ·rw [if_pos c9] at H
       have c9b0 := eq_true c9
       have c9b1 : decide (0 ≤ (ji8)) = true := decide_eq_true c9
       clear c9
       by_cases c10 : (ji8) ≤ (((rd_T33 l0_0 x4_1).f3).length : Int)
       ·rw [if_pos c10] at H
        have c10b0 := eq_true c10
        have c10b1 : decide ((ji8) ≤ (((rd_T33 l0_0 x4_1).f3).length : Int)) = true := decide_eq_true c10
        clear c10
        obtain ⟨y123, hy123⟩ : ∃ y_ : List Int, y_ = (((rd_T33 l0_0 x4_1).f3).take ((ji8) : Int).toNat) := ⟨_, rfl⟩
        replace H : (if x121000_1.length < 2932031007402 then (cavillaw13_Few.l0 k1 (wrap64 (x4_1 + 1)) l0_0 (x121000_1 ++ [(⟨(rd_T33 l0_0 x4_1).f0, (rd_T33 l0_0 x4_1).f1, (rd_T33 l0_0 x4_1).f2, y123⟩ : S33)])) else (none)) = some r := by first | (rw [hy123]; with_reducible exact H) | (have H2_ := (Option.bind_some _ _).symm.trans H; rw [hy123]; with_reducible exact H2_) | (have H2_ := (Option.bind_some _ _).symm.trans H; with_reducible exact H2_) | with_reducible exact H | (rw [hy123]; exact H) | exact H
        have Ny123 := Aside0.mk hy123
        clear hy123
        by_cases c11 : x121000_1.length < 2932031007402
        ·rw [if_pos c11] at H
         have LMc11 := Aside0.mk c11
         clear c11
         obtain ⟨y128, hy128⟩ : ∃ y_ : List (S33), y_ = (x121000_1 ++ [(⟨(rd_T33 l0_0 x4_1).f0, (rd_T33 l0_0 x4_1).f1, (rd_T33 l0_0 x4_1).f2, y123⟩ : S33)]) := ⟨_, rfl⟩
         replace H : (cavillaw13_Few.l0 k1 (wrap64 (x4_1 + 1)) l0_0 y128) = some r := by first | (rw [hy128]; with_reducible exact H) | (have H2_ := (Option.bind_some _ _).symm.trans H; rw [hy128]; with_reducible exact H2_) | (have H2_ := (Option.bind_some _ _).symm.trans H; with_reducible exact H2_) | with_reducible exact H | (rw [hy128]; exact H) | exact H
         have Ny128 := Aside0.mk hy128
         clear hy128
         have H' := Aside0.mk H
         clear H
         have hnb12 := NB118_119.out
         have hnc12 := NB119_118.out
         have hnb13 := NB118_120.out
         have hnc13 := NB120_118.out
         have hcz14_0 : wr.cell? ⟨gb118, 0, none⟩ = some (.slice A0_0 l0_0.length c0_0) := (blk_cell BK118.out 0).trans rfl
         have hfz14_0 := blk_frozen BK118.out 0
         have p121 : 0 ≤ (x4_1 : Int) := of_dec
         have q121 : x4_1 < (l0_0.length : Int) := of_dec
         obtain ⟨ad121, A121_3, c121_3, e121, hx121_0, hx121_1, hx121_2, hx121_3, hl121_3, hi121_3⟩ := at_T33 (Kd.V_reads' HO_119000.out).2.2 x4_1 p121 q121
         cases e121
         obtain ⟨ce121, hce121, hMe121, hcc121⟩ := Kd.V_get HO_119000.out z33 x4_1 p121 (by first | exact q121 | exact of_dec | (have e_ := (Kd.V_reads' HO_119000.out).1; omega))
         obtain ⟨ua121_3, uc121_3, rfl, ul121_3, ge121_3⟩ := k33_openF hMe121
         have hv121_3 := hcc121 3 _ rfl
         rw [add_field _ _ 3 (by omega)] at hv121_3
         replace hv121_3 := Option.some.inj (hv121_3.symm.trans hx121_3)
         injection hv121_3 with hva_ hvn_ hvc_
         rw [hva_] at ge121_3
         rw [hvc_] at ul121_3
         have HL121_3 := Aside0.mk (show Kd.V (Kd.int .i64) 3 _ w.heap.size _ _ ((rd_T33 l0_0 x4_1).f3) from Kd.V_mk ul121_3 ge121_3)
         clear hva_ hvn_ hvc_ ge121_3 ul121_3
         clear hcc121 hce121
         have HR121_3 := Aside0.mk hi121_3
         have HC121_3 := Aside0.mk hl121_3
         clear hi121_3 hl121_3
         replace p121 := eq_true p121
         replace q121 := eq_true q121
         go_wp2_with (first | ((with_reducible refine gate_dst (N := 5) rfl ?_); refine box_event ?hg (N := 5) ?hd (cs := #[.int .i64 0, .int .i64 0, .int .i64 0, .slice none 0 0]) (t := 33) ?hr ?_; (case hd => rfl); (case hg => rfl); (case hr => first | (go_simp; done) | (go_simp; rfl)); intro gb122 hg w15 hbox hb; have n0_ := Aside0.mk (Kd.V_below (Kd.V_elderB (go_V HO_119000.out) gb122 (Nat.le_of_eq hg.symm)) hb); have n1_ := Aside0.mk (Kd.N_below (Kd.N_elderB (go_N HO_121000.out) gb122 (Nat.le_of_eq hg.symm)) hb); have n2_ := Aside0.mk (Kd.V_below (Kd.V_elderB (go_V HL121_3.out) gb122 (Nat.le_of_eq hg.symm)) hb); have n3_ := Aside0.mk (blk_below (g := gb118) (o := .cells #[.slice (some ad121) l0_0.length c0_0] 24 (0, 0)) (go_k BK118.out) hb); have n4_ := Aside0.mk (blk_below (g := gb119) (o := .cells #[.slice none 0 0] 24 (0, 0)) (go_k BK119.out) hb); have n5_ := Aside0.mk (blk_below (g := gb120) (o := .cells #[u121000] 24 (0, 0)) (go_k BK120.out) hb); have n6_ := Aside0.mk (Kd.C_below (by repeat (first | (with_reducible exact HR121_3.out) | (with_reducible refine Kd.C_alloc ?_ _) | (with_reducible refine Kd.C_drewN ?_ _) | (with_reducible refine Kd.C_drew ?_) | exact HR121_3.out)) hb); have n7_ := Aside0.mk (below_step (go_b3 HB.out GE118.out GE119.out GE120.out) hb); have n8_ := Aside0.mk (hbox); have n9_ := Aside0.mk ((by rw [hg]; exact (below_size (go_b3 HB.out GE118.out GE119.out GE120.out)) : w.heap.size ≤ gb122)); have n10_ := Aside0.mk ((by rw [hg]; exact (below_size (go_b3 HB.out GE118.out GE119.out GE120.out)) : w.heap.size ≤ gb122)); have n11_ := Aside0.mk ((by rw [hg]; exact Nat.ne_of_lt (blk_lt (g := gb118) (o := .cells #[.slice (some ad121) l0_0.length c0_0] 24 (0, 0)) (go_k BK118.out)) : gb118 ≠ gb122)); have n12_ := Aside0.mk ((by rw [hg]; exact Nat.ne_of_gt (blk_lt (g := gb118) (o := .cells #[.slice (some ad121) l0_0.length c0_0] 24 (0, 0)) (go_k BK118.out)) : gb122 ≠ gb118)); have n13_ := Aside0.mk ((by rw [hg]; exact Nat.ne_of_lt (blk_lt (g := gb119) (o := .cells #[.slice none 0 0] 24 (0, 0)) (go_k BK119.out)) : gb119 ≠ gb122)); have n14_ := Aside0.mk ((by rw [hg]; exact Nat.ne_of_gt (blk_lt (g := gb119) (o := .cells #[.slice none 0 0] 24 (0, 0)) (go_k BK119.out)) : gb122 ≠ gb119)); have n15_ := Aside0.mk ((by rw [hg]; exact Nat.ne_of_lt (blk_lt (g := gb120) (o := .cells #[u121000] 24 (0, 0)) (go_k BK120.out)) : gb120 ≠ gb122)); have n16_ := Aside0.mk ((by rw [hg]; exact Nat.ne_of_gt (blk_lt (g := gb120) (o := .cells #[u121000] 24 (0, 0)) (go_k BK120.out)) : gb122 ≠ gb120)); clear HO_119000; clear HO_121000; clear HL121_3; clear BK118; clear BK119; clear BK120; clear HR121_3; clear HB; have HO_119000 := n0_; have HO_121000 := n1_; have HL121_3 := n2_; have BK118 := n3_; have BK119 := n4_; have BK120 := n5_; have HR121_3 := n6_; have HB := n7_; have BK122 := n8_; have GW122 := n9_; have GE122 := n10_; have NB118_122 := n11_; have NB122_118 := n12_; have NB119_122 := n13_; have NB122_119 := n14_; have NB120_122 := n15_; have NB122_120 := n16_; clear n0_ n1_ n2_ n3_ n4_ n5_ n6_ n7_ n8_ n9_ n10_ n11_ n12_ n13_ n14_ n15_ n16_; clear hb hbox hg; have hnb16 := NB122_118.out; have hnc16 := NB118_122.out; have hnb17 := NB122_119.out; have hnc17 := NB119_122.out; have hnb18 := NB122_120.out; have hnc18 := NB120_122.out; have hcz19_0 : w15.cell? ⟨gb122, 0, none⟩ = some (.int .i64 0) := (blk_cell BK122.out 0).trans rfl; have hcz19_1 : w15.cell? ⟨gb122, 1, none⟩ = some (.int .i64 0) := (blk_cell BK122.out 1).trans rfl; have hcz19_2 : w15.cell? ⟨gb122, 2, none⟩ = some (.int .i64 0) := (blk_cell BK122.out 2).trans rfl; have hcz19_3 : w15.cell? ⟨gb122, 3, none⟩ = some (.slice none 0 0) := (blk_cell BK122.out 3).trans rfl; have hfz19_0 := blk_frozen BK122.out 0; have hfz19_1 := blk_frozen BK122.out 1; have hfz19_2 := blk_frozen BK122.out 2; have hfz19_3 := blk_frozen BK122.out 3) | ((with_reducible refine gate_store (t := 33) (p := 5) rfl ?_); refine store_event (t := 33) (p := 5) (v := ?vo_w20) (w1 := ((((w15.setCell ⟨gb122, 0, none⟩ (.int .i64 ((rd_T33 l0_0 x4_1).f0))).setCell ⟨gb122, 1, none⟩ (.int .i64 ((rd_T33 l0_0 x4_1).f1))).setCell ⟨gb122, 2, none⟩ (.int .i64 ((rd_T33 l0_0 x4_1).f2))).setCell ⟨gb122, 3, none⟩ (.slice A121_3 ((rd_T33 l0_0 x4_1).f3).length c121_3))) ?hg ?ho ?hn ?hr ?_; (case ho => rfl); (case hg => rfl); (case hn => rfl); (case hr => first | (go_simp; done) | (go_simp; rfl)); intro w20 hw; have n0_ : Aside0 (Kd.V k33 33 w20 w.heap.size (fun k_ => (P0_0_ k_ ∨ w.heap.size ≤ k_) ∧ some k_ ≠ (u121000 : Value).ownBlock ∧ k_ ≠ gb118 ∧ k_ ≠ gb119 ∧ k_ ≠ gb120 ∧ k_ ≠ gb122) (.slice (some ad121) l0_0.length c0_0) l0_0) := ⟨(by rw [hw]; exact (by (with_reducible repeat (first | apply Kd.V_alloc | apply Kd.V_drewN | apply Kd.V_drew)); exact Kd.V_mono (Kd.V_far (p := ⟨gb122, 3, none⟩) (Kd.V_far (p := ⟨gb122, 2, none⟩) (Kd.V_far (p := ⟨gb122, 1, none⟩) (Kd.V_far (p := ⟨gb122, 0, none⟩) (Kd.V_mono HO_119000.out (fun k_ hk => (⟨hk, hk.2⟩ : _ ∧ k_ ≠ gb122))) (fun _ hk => hk.2) (.int .i64 ((rd_T33 l0_0 x4_1).f0))) (fun _ hk => hk.2) (.int .i64 ((rd_T33 l0_0 x4_1).f1))) (fun _ hk => hk.2) (.int .i64 ((rd_T33 l0_0 x4_1).f2))) (fun _ hk => hk.2) (.slice A121_3 ((rd_T33 l0_0 x4_1).f3).length c121_3)) (fun _ hk => ⟨hk.1.1.1, ⟨hk.1.1.2.1, ⟨hk.1.1.2.2.1, ⟨hk.1.1.2.2.2.1, ⟨hk.1.1.2.2.2.2, hk.1.2⟩⟩⟩⟩⟩)))⟩; have n1_ : Aside0 (Kd.N k33 33 w20 w.heap.size (fun k_ => (P0_0_ k_ ∨ w.heap.size ≤ k_) ∧ k_ ≠ gb118 ∧ k_ ≠ gb119 ∧ k_ ≠ gb120 ∧ k_ ≠ gb122) u121000 x121000_1) := ⟨(by rw [hw]; exact (by (with_reducible repeat (first | apply Kd.N_alloc | apply Kd.N_drewN | apply Kd.N_drew)); exact Kd.N_mono (Kd.N_far (p := ⟨gb122, 3, none⟩) (Kd.N_far (p := ⟨gb122, 2, none⟩) (Kd.N_far (p := ⟨gb122, 1, none⟩) (Kd.N_far (p := ⟨gb122, 0, none⟩) (Kd.N_mono HO_121000.out (fun k_ hk => (⟨hk, hk.2⟩ : _ ∧ k_ ≠ gb122))) (fun _ hk => hk.2) (.int .i64 ((rd_T33 l0_0 x4_1).f0))) (fun _ hk => hk.2) (.int .i64 ((rd_T33 l0_0 x4_1).f1))) (fun _ hk => hk.2) (.int .i64 ((rd_T33 l0_0 x4_1).f2))) (fun _ hk => hk.2) (.slice A121_3 ((rd_T33 l0_0 x4_1).f3).length c121_3)) (fun _ hk => ⟨hk.1.1.1, ⟨hk.1.1.2.1, ⟨hk.1.1.2.2.1, ⟨hk.1.1.2.2.2, hk.1.2⟩⟩⟩⟩)))⟩; have n2_ : Aside0 (Kd.V (Kd.int .i64) 3 w20 w.heap.size (fun k_ => (P0_0_ k_ ∨ w.heap.size ≤ k_) ∧ some k_ ≠ (u121000 : Value).ownBlock ∧ k_ ≠ gb118 ∧ k_ ≠ gb119 ∧ k_ ≠ gb120 ∧ k_ ≠ gb122) (.slice A121_3 ((rd_T33 l0_0 x4_1).f3).length c121_3) ((rd_T33 l0_0 x4_1).f3)) := ⟨(by rw [hw]; exact (by (with_reducible repeat (first | apply Kd.V_alloc | apply Kd.V_drewN | apply Kd.V_drew)); exact Kd.V_mono (Kd.V_far (p := ⟨gb122, 3, none⟩) (Kd.V_far (p := ⟨gb122, 2, none⟩) (Kd.V_far (p := ⟨gb122, 1, none⟩) (Kd.V_far (p := ⟨gb122, 0, none⟩) (Kd.V_mono HL121_3.out (fun k_ hk => (⟨hk, hk.2⟩ : _ ∧ k_ ≠ gb122))) (fun _ hk => hk.2) (.int .i64 ((rd_T33 l0_0 x4_1).f0))) (fun _ hk => hk.2) (.int .i64 ((rd_T33 l0_0 x4_1).f1))) (fun _ hk => hk.2) (.int .i64 ((rd_T33 l0_0 x4_1).f2))) (fun _ hk => hk.2) (.slice A121_3 ((rd_T33 l0_0 x4_1).f3).length c121_3)) (fun _ hk => ⟨hk.1.1.1, ⟨hk.1.1.2.1, ⟨hk.1.1.2.2.1, ⟨hk.1.1.2.2.2.1, ⟨hk.1.1.2.2.2.2, hk.1.2⟩⟩⟩⟩⟩)))⟩; have n3_ : Aside0 (w20.heap[gb118]? = some (.cells #[.slice (some ad121) l0_0.length c0_0] 24 (0, 0))) := ⟨(by rw [hw]; exact (by (with_reducible repeat (first | refine blk_drewN ?_ _ | refine blk_drew ?_ | refine blk_alloc ?_ _)); refine blk_far ?_ NB118_122.out _; refine blk_far ?_ NB118_122.out _; refine blk_far ?_ NB118_122.out _; refine blk_far ?_ NB118_122.out _; (with_reducible repeat (first | refine blk_drewN ?_ _ | refine blk_drew ?_ | refine blk_alloc ?_ _)); exact BK118.out))⟩; have n4_ : Aside0 (w20.heap[gb119]? = some (.cells #[.slice none 0 0] 24 (0, 0))) := ⟨(by rw [hw]; exact (by (with_reducible repeat (first | refine blk_drewN ?_ _ | refine blk_drew ?_ | refine blk_alloc ?_ _)); refine blk_far ?_ NB119_122.out _; refine blk_far ?_ NB119_122.out _; refine blk_far ?_ NB119_122.out _; refine blk_far ?_ NB119_122.out _; (with_reducible repeat (first | refine blk_drewN ?_ _ | refine blk_drew ?_ | refine blk_alloc ?_ _)); exact BK119.out))⟩; have n5_ : Aside0 (w20.heap[gb120]? = some (.cells #[u121000] 24 (0, 0))) := ⟨(by rw [hw]; exact (by (with_reducible repeat (first | refine blk_drewN ?_ _ | refine blk_drew ?_ | refine blk_alloc ?_ _)); refine blk_far ?_ NB120_122.out _; refine blk_far ?_ NB120_122.out _; refine blk_far ?_ NB120_122.out _; refine blk_far ?_ NB120_122.out _; (with_reducible repeat (first | refine blk_drewN ?_ _ | refine blk_drew ?_ | refine blk_alloc ?_ _)); exact BK120.out))⟩; have n6_ : Aside0 (w20.heap[gb122]? = some (.cells #[.int .i64 ((rd_T33 l0_0 x4_1).f0), .int .i64 ((rd_T33 l0_0 x4_1).f1), .int .i64 ((rd_T33 l0_0 x4_1).f2), .slice A121_3 ((rd_T33 l0_0 x4_1).f3).length c121_3] 33 (0, 0))) := ⟨(by rw [hw]; exact (by (with_reducible repeat (first | refine blk_drewN ?_ _ | refine blk_drew ?_ | refine blk_alloc ?_ _)); refine blk_put (cs := #[.int .i64 ((rd_T33 l0_0 x4_1).f0), .int .i64 ((rd_T33 l0_0 x4_1).f1), .int .i64 ((rd_T33 l0_0 x4_1).f2), .slice none 0 0]) ?_ 3 _ rfl; refine blk_put (cs := #[.int .i64 ((rd_T33 l0_0 x4_1).f0), .int .i64 ((rd_T33 l0_0 x4_1).f1), .int .i64 0, .slice none 0 0]) ?_ 2 _ rfl; refine blk_put (cs := #[.int .i64 ((rd_T33 l0_0 x4_1).f0), .int .i64 0, .int .i64 0, .slice none 0 0]) ?_ 1 _ rfl; refine blk_put (cs := #[.int .i64 0, .int .i64 0, .int .i64 0, .slice none 0 0]) ?_ 0 _ rfl; (with_reducible repeat (first | refine blk_drewN ?_ _ | refine blk_drew ?_ | refine blk_alloc ?_ _)); exact BK122.out))⟩; have n7_ : Aside0 (Below w.heap.size w w20) := ⟨(by rw [hw]; exact (by repeat (first | (with_reducible first | exact HB.out | apply below_alloc | apply pw_below_drewN | apply below_drew1 | refine below_set ?_ GE118.out | refine below_set ?_ GE119.out | refine below_set ?_ GE120.out | refine below_set ?_ GE122.out) | exact HB.out)))⟩; clear hw; clear HO_119000; clear HO_121000; clear HL121_3; clear BK118; clear BK119; clear BK120; clear BK122; clear HB; have HO_119000 := n0_; have HO_121000 := n1_; have HL121_3 := n2_; have BK118 := n3_; have BK119 := n4_; have BK120 := n5_; have BK122 := n6_; have HB := n7_; clear n0_ n1_ n2_ n3_ n4_ n5_ n6_ n7_; have hcz21_0 : w20.cell? ⟨gb122, 0, none⟩ = some (.int .i64 ((rd_T33 l0_0 x4_1).f0)) := (blk_cell BK122.out 0).trans rfl; have hcz21_1 : w20.cell? ⟨gb122, 1, none⟩ = some (.int .i64 ((rd_T33 l0_0 x4_1).f1)) := (blk_cell BK122.out 1).trans rfl; have hcz21_2 : w20.cell? ⟨gb122, 2, none⟩ = some (.int .i64 ((rd_T33 l0_0 x4_1).f2)) := (blk_cell BK122.out 2).trans rfl; have hcz21_3 : w20.cell? ⟨gb122, 3, none⟩ = some (.slice A121_3 ((rd_T33 l0_0 x4_1).f3).length c121_3) := (blk_cell BK122.out 3).trans rfl; have hfz21_0 := blk_frozen BK122.out 0; have hfz21_1 := blk_frozen BK122.out 1; have hfz21_2 := blk_frozen BK122.out 2; have hfz21_3 := blk_frozen BK122.out 3; have q22 : ((ji8) : Int) ≤ ((((rd_T33 l0_0 x4_1).f3).length : Int) : Int) := of_dec; obtain ⟨i022, hi022, _, hsz22, _⟩ := info_parts info3; have hroom22 : ((rd_T33 l0_0 x4_1).f3).length ≤ c121_3 := HC121_3.out; have hC22 : Kd.F (Kd.int .i64) _ _ A121_3 ((rd_T33 l0_0 x4_1).f3).length ((rd_T33 l0_0 x4_1).f3) := (Kd.V_at (base := w.heap.size) HL121_3.out).2.2; have hcut22 := cut_to (P := Tryd.prog) 31 3 .i64 Tryd.underlying31 hi022 A121_3 ((rd_T33 l0_0 x4_1).f3).length c121_3 (ji8) (of_dec) q22 hroom22; have hr22 := Kd.F_take (m := ((ji8) : Int).toNat) hC22 (by omega); have hy22 : y123.length = ((ji8) : Int).toNat := (by rw [Ny123.out, List.length_take]; omega); rw [← Ny123.out] at hr22; rw [← hy22] at hcut22; have HO127 := Aside0.mk (show Kd.V (Kd.int .i64) 3 _ w.heap.size _ (.slice A121_3 y123.length c121_3) y123 from Kd.V_mk (by omega) hr22); have HC127 := Aside0.mk (show y123.length ≤ c121_3 from by omega); clear hr22 hC22 hroom22 hi022 hsz22; have KY22 := Aside0.mk hy22; clear hy22; replace q22 := eq_true q22) | ((with_reducible refine gate_store (t := 31) (p := 29) rfl ?_); refine store_event (t := 31) (p := 29) (v := ?vo_w23) (w1 := (w20.setCell ⟨gb122, 3, none⟩ (.slice A121_3 y123.length c121_3))) ?hg ?ho ?hn ?hr ?_; (case ho => rfl); (case hg => rfl); (case hn => rfl); (case hr => first | (go_simp; done) | (go_simp; rfl)); intro w23 hw; have n0_ : Aside0 (Kd.V k33 33 w23 w.heap.size (fun k_ => (P0_0_ k_ ∨ w.heap.size ≤ k_) ∧ some k_ ≠ (u121000 : Value).ownBlock ∧ k_ ≠ gb118 ∧ k_ ≠ gb119 ∧ k_ ≠ gb120 ∧ k_ ≠ gb122) (.slice (some ad121) l0_0.length c0_0) l0_0) := ⟨(by rw [hw]; exact (by (with_reducible repeat (first | apply Kd.V_alloc | apply Kd.V_drewN | apply Kd.V_drew)); exact Kd.V_mono (Kd.V_far (p := ⟨gb122, 3, none⟩) (Kd.V_mono HO_119000.out (fun k_ hk => (⟨hk, hk.2.2.2.2.2⟩ : _ ∧ k_ ≠ gb122))) (fun _ hk => hk.2) (.slice A121_3 y123.length c121_3)) (fun _ hk => ⟨hk.1.1, ⟨hk.1.2.1, ⟨hk.1.2.2.1, ⟨hk.1.2.2.2.1, ⟨hk.1.2.2.2.2.1, hk.1.2.2.2.2.2⟩⟩⟩⟩⟩)))⟩; have n1_ : Aside0 (Kd.N k33 33 w23 w.heap.size (fun k_ => (P0_0_ k_ ∨ w.heap.size ≤ k_) ∧ k_ ≠ gb118 ∧ k_ ≠ gb119 ∧ k_ ≠ gb120 ∧ k_ ≠ gb122) u121000 x121000_1) := ⟨(by rw [hw]; exact (by (with_reducible repeat (first | apply Kd.N_alloc | apply Kd.N_drewN | apply Kd.N_drew)); exact Kd.N_mono (Kd.N_far (p := ⟨gb122, 3, none⟩) (Kd.N_mono HO_121000.out (fun k_ hk => (⟨hk, hk.2.2.2.2⟩ : _ ∧ k_ ≠ gb122))) (fun _ hk => hk.2) (.slice A121_3 y123.length c121_3)) (fun _ hk => ⟨hk.1.1, ⟨hk.1.2.1, ⟨hk.1.2.2.1, ⟨hk.1.2.2.2.1, hk.1.2.2.2.2⟩⟩⟩⟩)))⟩; have n2_ : Aside0 (Kd.V (Kd.int .i64) 3 w23 w.heap.size (fun k_ => (P0_0_ k_ ∨ w.heap.size ≤ k_) ∧ some k_ ≠ (u121000 : Value).ownBlock ∧ k_ ≠ gb118 ∧ k_ ≠ gb119 ∧ k_ ≠ gb120 ∧ k_ ≠ gb122) (.slice A121_3 ((rd_T33 l0_0 x4_1).f3).length c121_3) ((rd_T33 l0_0 x4_1).f3)) := ⟨(by rw [hw]; exact (by (with_reducible repeat (first | apply Kd.V_alloc | apply Kd.V_drewN | apply Kd.V_drew)); exact Kd.V_mono (Kd.V_far (p := ⟨gb122, 3, none⟩) (Kd.V_mono HL121_3.out (fun k_ hk => (⟨hk, hk.2.2.2.2.2⟩ : _ ∧ k_ ≠ gb122))) (fun _ hk => hk.2) (.slice A121_3 y123.length c121_3)) (fun _ hk => ⟨hk.1.1, ⟨hk.1.2.1, ⟨hk.1.2.2.1, ⟨hk.1.2.2.2.1, ⟨hk.1.2.2.2.2.1, hk.1.2.2.2.2.2⟩⟩⟩⟩⟩)))⟩; have n3_ : Aside0 (Kd.V (Kd.int .i64) 3 w23 w.heap.size (fun k_ => (P0_0_ k_ ∨ w.heap.size ≤ k_) ∧ some k_ ≠ (u121000 : Value).ownBlock ∧ k_ ≠ gb118 ∧ k_ ≠ gb119 ∧ k_ ≠ gb120 ∧ k_ ≠ gb122) (.slice A121_3 y123.length c121_3) y123) := ⟨(by rw [hw]; exact (by (with_reducible repeat (first | apply Kd.V_alloc | apply Kd.V_drewN | apply Kd.V_drew)); exact Kd.V_mono (Kd.V_far (p := ⟨gb122, 3, none⟩) (Kd.V_mono HO127.out (fun k_ hk => (⟨hk, hk.2.2.2.2.2⟩ : _ ∧ k_ ≠ gb122))) (fun _ hk => hk.2) (.slice A121_3 y123.length c121_3)) (fun _ hk => ⟨hk.1.1, ⟨hk.1.2.1, ⟨hk.1.2.2.1, ⟨hk.1.2.2.2.1, ⟨hk.1.2.2.2.2.1, hk.1.2.2.2.2.2⟩⟩⟩⟩⟩)))⟩; have n4_ : Aside0 (w23.heap[gb118]? = some (.cells #[.slice (some ad121) l0_0.length c0_0] 24 (0, 0))) := ⟨(by rw [hw]; exact (by (with_reducible repeat (first | refine blk_drewN ?_ _ | refine blk_drew ?_ | refine blk_alloc ?_ _)); refine blk_far ?_ NB118_122.out _; (with_reducible repeat (first | refine blk_drewN ?_ _ | refine blk_drew ?_ | refine blk_alloc ?_ _)); exact BK118.out))⟩; have n5_ : Aside0 (w23.heap[gb119]? = some (.cells #[.slice none 0 0] 24 (0, 0))) := ⟨(by rw [hw]; exact (by (with_reducible repeat (first | refine blk_drewN ?_ _ | refine blk_drew ?_ | refine blk_alloc ?_ _)); refine blk_far ?_ NB119_122.out _; (with_reducible repeat (first | refine blk_drewN ?_ _ | refine blk_drew ?_ | refine blk_alloc ?_ _)); exact BK119.out))⟩; have n6_ : Aside0 (w23.heap[gb120]? = some (.cells #[u121000] 24 (0, 0))) := ⟨(by rw [hw]; exact (by (with_reducible repeat (first | refine blk_drewN ?_ _ | refine blk_drew ?_ | refine blk_alloc ?_ _)); refine blk_far ?_ NB120_122.out _; (with_reducible repeat (first | refine blk_drewN ?_ _ | refine blk_drew ?_ | refine blk_alloc ?_ _)); exact BK120.out))⟩; have n7_ : Aside0 (w23.heap[gb122]? = some (.cells #[.int .i64 ((rd_T33 l0_0 x4_1).f0), .int .i64 ((rd_T33 l0_0 x4_1).f1), .int .i64 ((rd_T33 l0_0 x4_1).f2), .slice A121_3 y123.length c121_3] 33 (0, 0))) := ⟨(by rw [hw]; exact (by (with_reducible repeat (first | refine blk_drewN ?_ _ | refine blk_drew ?_ | refine blk_alloc ?_ _)); refine blk_put (cs := #[.int .i64 ((rd_T33 l0_0 x4_1).f0), .int .i64 ((rd_T33 l0_0 x4_1).f1), .int .i64 ((rd_T33 l0_0 x4_1).f2), .slice A121_3 ((rd_T33 l0_0 x4_1).f3).length c121_3]) ?_ 3 _ rfl; (with_reducible repeat (first | refine blk_drewN ?_ _ | refine blk_drew ?_ | refine blk_alloc ?_ _)); exact BK122.out))⟩; have n8_ : Aside0 (Below w.heap.size w w23) := ⟨(by rw [hw]; exact (by repeat (first | (with_reducible first | exact HB.out | apply below_alloc | apply pw_below_drewN | apply below_drew1 | refine below_set ?_ GE118.out | refine below_set ?_ GE119.out | refine below_set ?_ GE120.out | refine below_set ?_ GE122.out) | exact HB.out)))⟩; clear hw; clear HO_119000; clear HO_121000; clear HL121_3; clear HO127; clear BK118; clear BK119; clear BK120; clear BK122; clear HB; have HO_119000 := n0_; have HO_121000 := n1_; have HL121_3 := n2_; have HO127 := n3_; have BK118 := n4_; have BK119 := n5_; have BK120 := n6_; have BK122 := n7_; have HB := n8_; clear n0_ n1_ n2_ n3_ n4_ n5_ n6_ n7_ n8_; have hnb24 := NB120_119.out; have hnc24 := NB119_120.out; have hcz25_0 : w23.cell? ⟨gb120, 0, none⟩ = some (u121000) := (blk_cell BK120.out 0).trans rfl; have hfz25_0 := blk_frozen BK120.out 0; have hcz26_0 : w23.cell? ⟨gb122, 0, none⟩ = some (.int .i64 ((rd_T33 l0_0 x4_1).f0)) := (blk_cell BK122.out 0).trans rfl; have hcz26_1 : w23.cell? ⟨gb122, 1, none⟩ = some (.int .i64 ((rd_T33 l0_0 x4_1).f1)) := (blk_cell BK122.out 1).trans rfl; have hcz26_2 : w23.cell? ⟨gb122, 2, none⟩ = some (.int .i64 ((rd_T33 l0_0 x4_1).f2)) := (blk_cell BK122.out 2).trans rfl; have hcz26_3 : w23.cell? ⟨gb122, 3, none⟩ = some (.slice A121_3 y123.length c121_3) := (blk_cell BK122.out 3).trans rfl; have hfz26_0 := blk_frozen BK122.out 0; have hfz26_1 := blk_frozen BK122.out 1; have hfz26_2 := blk_frozen BK122.out 2; have hfz26_3 := blk_frozen BK122.out 3) | ((with_reducible refine gate_builtin (b := .append) (xs := #[.tmp 31, .tmp 33]) rfl ?_); at_builtin; refine Kd.N_append k33 (w0 := w) w.heap.size rfl (.tmp 31) (.tmp 33) 22 33 (.agg #[(.int .i64 0), (.int .i64 0), (.int .i64 0), (.slice none 0 0)]) 48 rfl Tryd.underlying22 info33 rfl (by decide) (by omega) u121000 x121000_1 (⟨(rd_T33 l0_0 x4_1).f0, (rd_T33 l0_0 x4_1).f1, (rd_T33 l0_0 x4_1).f2, y123⟩ : S33) [.int .i64 ((rd_T33 l0_0 x4_1).f0), .int .i64 ((rd_T33 l0_0 x4_1).f1), .int .i64 ((rd_T33 l0_0 x4_1).f2), .slice A121_3 y123.length c121_3] (fun k_ => (P0_0_ k_ ∨ w.heap.size ≤ k_) ∧ k_ ≠ gb118 ∧ k_ ≠ gb119 ∧ k_ ≠ gb120 ∧ k_ ≠ gb122) (fun k_ => ((fun k_ => (P0_0_ k_ ∨ w.heap.size ≤ k_) ∧ k_ ≠ gb118 ∧ k_ ≠ gb119 ∧ k_ ≠ gb120 ∧ k_ ≠ gb122)) k_ ∧ some k_ ≠ (u121000 : Value).ownBlock) rfl rfl ?aP (fun _ hk => hk) ?aF ?aO ?aB ?aS ?aL ?_; (case aP => exact (k33_mkF _ _ (⟨(rd_T33 l0_0 x4_1).f0, (rd_T33 l0_0 x4_1).f1, (rd_T33 l0_0 x4_1).f2, y123⟩ : S33) (Kd.V_reads' (Kd.V_mono (ok' := (fun k_ => ((fun k_ => (P0_0_ k_ ∨ w.heap.size ≤ k_) ∧ k_ ≠ gb118 ∧ k_ ≠ gb119 ∧ k_ ≠ gb120 ∧ k_ ≠ gb122)) k_ ∧ some k_ ≠ (u121000 : Value).ownBlock)) (HO127.out) (fun k_ hk => ⟨⟨hk.1, ⟨hk.2.2.1, ⟨hk.2.2.2.1, ⟨hk.2.2.2.2.1, hk.2.2.2.2.2⟩⟩⟩⟩, hk.2.1⟩))).2.1 (Kd.V_F (Kd.V_mono (ok' := (fun k_ => ((fun k_ => (P0_0_ k_ ∨ w.heap.size ≤ k_) ∧ k_ ≠ gb118 ∧ k_ ≠ gb119 ∧ k_ ≠ gb120 ∧ k_ ≠ gb122)) k_ ∧ some k_ ≠ (u121000 : Value).ownBlock)) (HO127.out) (fun k_ hk => ⟨⟨hk.1, ⟨hk.2.2.1, ⟨hk.2.2.2.1, ⟨hk.2.2.2.2.1, hk.2.2.2.2.2⟩⟩⟩⟩, hk.2.1⟩))))); (case aB => exact (by repeat (first | (with_reducible first | exact HB.out | apply below_alloc | apply pw_below_drewN | apply below_drew1 | refine below_set ?_ GE118.out | refine below_set ?_ GE119.out | refine below_set ?_ GE120.out | refine below_set ?_ GE122.out) | exact HB.out))); (case aF => exact (fun k_ hk => ⟨(.inr (Nat.le_trans (below_size (by repeat (first | (with_reducible first | exact HB.out | apply below_alloc | apply pw_below_drewN | apply below_drew1 | refine below_set ?_ GE118.out | refine below_set ?_ GE119.out | refine below_set ?_ GE120.out | refine below_set ?_ GE122.out) | exact HB.out))) hk)), Kd.freshB (g := gb118) (o := .cells #[.slice (some ad121) l0_0.length c0_0] 24 (0, 0)) (go_k BK118.out) k_ hk, Kd.freshB (g := gb119) (o := .cells #[.slice none 0 0] 24 (0, 0)) (go_k BK119.out) k_ hk, Kd.freshB (g := gb120) (o := .cells #[u121000] 24 (0, 0)) (go_k BK120.out) k_ hk, Kd.freshB (g := gb122) (o := .cells #[.int .i64 ((rd_T33 l0_0 x4_1).f0), .int .i64 ((rd_T33 l0_0 x4_1).f1), .int .i64 ((rd_T33 l0_0 x4_1).f2), .slice A121_3 y123.length c121_3] 33 (0, 0)) (go_k BK122.out) k_ hk⟩)); (case aO => exact (go_N HO_121000.out)); (case aS => exact (below_size (by repeat (first | (with_reducible first | exact HB.out | apply below_alloc | apply pw_below_drewN | apply below_drew1 | refine below_set ?_ GE118.out | refine below_set ?_ GE119.out | refine below_set ?_ GE120.out | refine below_set ?_ GE122.out) | exact HB.out)))); (case aL => have := LMc11.out; omega); intro v129 w27 ho hb hg hat; rw [← Ny128.out] at ho; have n0_ := Aside0.mk (Kd.V_afterv (ok := (fun k_ => (P0_0_ k_ ∨ w.heap.size ≤ k_) ∧ k_ ≠ gb118 ∧ k_ ≠ gb119 ∧ k_ ≠ gb120 ∧ k_ ≠ gb122)) (by (with_reducible repeat (first | apply Kd.V_alloc | apply Kd.V_drewN | apply Kd.V_drew)); exact Kd.V_mono HO_119000.out (fun _ hk => ⟨⟨hk.1, ⟨hk.2.2.1, ⟨hk.2.2.2.1, ⟨hk.2.2.2.2.1, hk.2.2.2.2.2⟩⟩⟩⟩, hk.2.1⟩)) hg hat); have n1_ := Aside0.mk (blk_grown (g := gb118) (o := .cells #[.slice (some ad121) l0_0.length c0_0] 24 (0, 0)) (go_k BK118.out) hg (Kd.N_ne HO_121000.out BK118.out (by decide))); have n2_ := Aside0.mk (blk_grown (g := gb119) (o := .cells #[.slice none 0 0] 24 (0, 0)) (go_k BK119.out) hg (Kd.N_ne HO_121000.out BK119.out (by decide))); have n3_ := Aside0.mk (blk_grown (g := gb120) (o := .cells #[u121000] 24 (0, 0)) (go_k BK120.out) hg (Kd.N_ne HO_121000.out BK120.out (by decide))); have n4_ := Aside0.mk (Kd.V_afterv (ok := (fun k_ => (P0_0_ k_ ∨ w.heap.size ≤ k_) ∧ k_ ≠ gb118 ∧ k_ ≠ gb119 ∧ k_ ≠ gb120 ∧ k_ ≠ gb122)) (by (with_reducible repeat (first | apply Kd.V_alloc | apply Kd.V_drewN | apply Kd.V_drew)); exact Kd.V_mono HL121_3.out (fun _ hk => ⟨⟨hk.1, ⟨hk.2.2.1, ⟨hk.2.2.2.1, ⟨hk.2.2.2.2.1, hk.2.2.2.2.2⟩⟩⟩⟩, hk.2.1⟩)) hg hat); have n5_ := Aside0.mk (blk_grown (g := gb122) (o := .cells #[.int .i64 ((rd_T33 l0_0 x4_1).f0), .int .i64 ((rd_T33 l0_0 x4_1).f1), .int .i64 ((rd_T33 l0_0 x4_1).f2), .slice A121_3 y123.length c121_3] 33 (0, 0)) (go_k BK122.out) hg (Kd.N_away HO_121000.out (fun _ hk => hk.2.2.2.2))); have n6_ := Aside0.mk (Kd.V_afterv (ok := (fun k_ => (P0_0_ k_ ∨ w.heap.size ≤ k_) ∧ k_ ≠ gb118 ∧ k_ ≠ gb119 ∧ k_ ≠ gb120 ∧ k_ ≠ gb122)) (by (with_reducible repeat (first | apply Kd.V_alloc | apply Kd.V_drewN | apply Kd.V_drew)); exact Kd.V_mono HO127.out (fun _ hk => ⟨⟨hk.1, ⟨hk.2.2.1, ⟨hk.2.2.2.1, ⟨hk.2.2.2.2.1, hk.2.2.2.2.2⟩⟩⟩⟩, hk.2.1⟩)) hg hat); have n7_ := Aside0.mk (hb); have n8_ := Aside0.mk (ho); clear HO_119000; clear BK118; clear BK119; clear BK120; clear HL121_3; clear BK122; clear HO127; clear HB; clear HO_121000; have HO_119000 := n0_; have BK118 := n1_; have BK119 := n2_; have BK120 := n3_; have HL121_3 := n4_; have BK122 := n5_; have HO127 := n6_; have HB := n7_; have HO130 := n8_; clear n0_ n1_ n2_ n3_ n4_ n5_ n6_ n7_ n8_; clear ho hb hg hat; obtain ⟨Ao28, co28, eo28⟩ := Kd.N_slice HO130.out; subst eo28; have hcz29_0 : w27.cell? ⟨gb120, 0, none⟩ = some (u121000) := (blk_cell BK120.out 0).trans rfl; have hfz29_0 := blk_frozen BK120.out 0))
         go_roundg k1
         case measure => have := HK1.out; omega
         case rel => exact ⟨(wrap64 (x4_1 + 1)), (y128), (.slice Ao28 y128.length co28), (by first | rfl | (simp; done) | (simp [*]; done)), H', ⟨by have := HK1.out; omega⟩, ⟨by (with_reducible repeat (first | apply Kd.V_alloc | apply Kd.V_drewN | apply Kd.V_drew)); exact Kd.V_mono (Kd.V_far (p := ⟨gb120, 0, none⟩) (Kd.V_mono HO_119000.out (fun k_ hk => (⟨hk, hk.1.2.2.2.1⟩ : _ ∧ k_ ≠ gb120))) (fun _ hk => hk.2) (.slice Ao28 y128.length co28)) (fun _ hk => ⟨hk.1.1.1, ⟨hk.1.2, ⟨hk.1.1.2.1, ⟨hk.1.1.2.2.1, hk.1.1.2.2.2.1⟩⟩⟩⟩)⟩, ⟨by (with_reducible repeat (first | apply Kd.N_alloc | apply Kd.N_drewN | apply Kd.N_drew)); exact Kd.N_mono (Kd.N_far (p := ⟨gb120, 0, none⟩) (Kd.N_mono HO130.out (fun k_ hk => (⟨hk, hk.2.2.2.1⟩ : _ ∧ k_ ≠ gb120))) (fun _ hk => hk.2) (.slice Ao28 y128.length co28)) (fun _ hk => ⟨hk.1.1, ⟨hk.1.2.1, ⟨hk.1.2.2.1, hk.1.2.2.2.1⟩⟩⟩)⟩, ⟨by (with_reducible repeat (first | refine blk_drewN ?_ _ | refine blk_drew ?_ | refine blk_alloc ?_ _)); refine blk_far ?_ NB118_120.out _; (with_reducible repeat (first | refine blk_drewN ?_ _ | refine blk_drew ?_ | refine blk_alloc ?_ _)); exact BK118.out⟩, ⟨by (with_reducible repeat (first | refine blk_drewN ?_ _ | refine blk_drew ?_ | refine blk_alloc ?_ _)); refine blk_far ?_ NB119_120.out _; (with_reducible repeat (first | refine blk_drewN ?_ _ | refine blk_drew ?_ | refine blk_alloc ?_ _)); exact BK119.out⟩, ⟨by (with_reducible repeat (first | refine blk_drewN ?_ _ | refine blk_drew ?_ | refine blk_alloc ?_ _)); refine blk_put (cs := #[u121000]) ?_ 0 _ rfl; (with_reducible repeat (first | refine blk_drewN ?_ _ | refine blk_drew ?_ | refine blk_alloc ?_ _)); exact BK120.out⟩, ⟨by repeat (first | (with_reducible first | exact HB.out | apply below_alloc | apply pw_below_drewN | apply below_drew1 | refine below_set ?_ GE118.out | refine below_set ?_ GE119.out | refine below_set ?_ GE120.out | refine below_set ?_ GE122.out) | exact HB.out)⟩⟩
        ·rw [if_neg c11] at H
         exact absurd H (by simp)
       ·rw [if_neg c10] at H
        exact absurd H (by simp)
      ·rw [if_neg c9] at H
       exact absurd H (by simp)
     ·rw [if_neg c7] at H
      exact absurd H (by simp)
    ·rw [if_neg c6] at H
     have c6b0 : decide (x4_1 < 40) = false := decide_eq_false c6
     clear c6
     obtain rfl := Option.some.inj H
     have hnb30 := NB118_119.out
     have hnc30 := NB119_118.out
     have hnb31 := NB118_120.out
     have hnc31 := NB120_118.out
     have hcz32_0 : wr.cell? ⟨gb118, 0, none⟩ = some (.slice A0_0 l0_0.length c0_0) := (blk_cell BK118.out 0).trans rfl
     have hfz32_0 := blk_frozen BK118.out 0
     have hnb33 := NB120_119.out
     have hnc33 := NB119_120.out
     have hcz34_0 : wr.cell? ⟨gb120, 0, none⟩ = some (u121000) := (blk_cell BK120.out 0).trans rfl
     have hfz34_0 := blk_frozen BK120.out 0
     obtain ⟨Ao35, co35, eo35⟩ := Kd.N_slice HO_121000.out
     subst eo35
     have hcz36_0 : wr.cell? ⟨gb119, 0, none⟩ = some (.slice none 0 0) := (blk_cell BK119.out 0).trans rfl
     have hfz36_0 := blk_frozen BK119.out 0
     go_wp2
     refine bodyPost_ret (results_cell_row rfl _ _ gb119 24 #[.slice Ao35 x121000_1.length co35] (0, 0) _ rfl (by (with_reducible repeat (first | refine blk_drewN ?_ _ | refine blk_drew ?_ | refine blk_alloc ?_ _)); refine blk_put (cs := #[.slice none 0 0]) ?_ 0 _ rfl; (with_reducible repeat (first | refine blk_drewN ?_ _ | refine blk_drew ?_ | refine blk_alloc ?_ _)); exact BK119.out) Tryd.underlying24 rfl (by kernel_rfl)) rfl ?_
     exact ⟨_, by first | rfl | (simp [*, errW_none, errW_some, erT_no, erV_no, erT_at, erV_at] <;> rfl), by (with_reducible repeat (first | apply Kd.N_alloc | apply Kd.N_drewN | apply Kd.N_drew)); exact Kd.N_mono (Kd.N_far (p := ⟨gb119, 0, none⟩) (Kd.N_mono HO_121000.out (fun k_ hk => (⟨hk, hk.2.2.1⟩ : _ ∧ k_ ≠ gb119))) (fun _ hk => hk.2) (.slice Ao35 x121000_1.length co35)) (fun _ hk => hk.1.1), by repeat (first | (with_reducible first | exact HB.out | apply below_alloc | apply pw_below_drewN | apply below_drew1 | refine below_set ?_ GE118.out | refine below_set ?_ GE119.out | refine below_set ?_ GE120.out) | exact HB.out)⟩
   ·rw [if_neg c5] at H
    have c5b0 : decide (x4_1 < (l0_0.length : Int)) = false := decide_eq_false c5
    clear c5
    obtain rfl := Option.some.inj H
    have hnb37 := NB118_119.out
    have hnc37 := NB119_118.out
    have hnb38 := NB118_120.out
    have hnc38 := NB120_118.out
    have hcz39_0 : wr.cell? ⟨gb118, 0, none⟩ = some (.slice A0_0 l0_0.length c0_0) := (blk_cell BK118.out 0).trans rfl
    have hfz39_0 := blk_frozen BK118.out 0
    have hnb40 := NB120_119.out
    have hnc40 := NB119_120.out
    have hcz41_0 : wr.cell? ⟨gb120, 0, none⟩ = some (u121000) := (blk_cell BK120.out 0).trans rfl
    have hfz41_0 := blk_frozen BK120.out 0
    obtain ⟨Ao42, co42, eo42⟩ := Kd.N_slice HO_121000.out
    subst eo42
    have hcz43_0 : wr.cell? ⟨gb119, 0, none⟩ = some (.slice none 0 0) := (blk_cell BK119.out 0).trans rfl
    have hfz43_0 := blk_frozen BK119.out 0
    go_wp2
    refine bodyPost_ret (results_cell_row rfl _ _ gb119 24 #[.slice Ao42 x121000_1.length co42] (0, 0) _ rfl (by (with_reducible repeat (first | refine blk_drewN ?_ _ | refine blk_drew ?_ | refine blk_alloc ?_ _)); refine blk_put (cs := #[.slice none 0 0]) ?_ 0 _ rfl; (with_reducible repeat (first | refine blk_drewN ?_ _ | refine blk_drew ?_ | refine blk_alloc ?_ _)); exact BK119.out) Tryd.underlying24 rfl (by kernel_rfl)) rfl ?_
    exact ⟨_, by first | rfl | (simp [*, errW_none, errW_some, erT_no, erV_no, erT_at, erV_at] <;> rfl), by (with_reducible repeat (first | apply Kd.N_alloc | apply Kd.N_drewN | apply Kd.N_drew)); exact Kd.N_mono (Kd.N_far (p := ⟨gb119, 0, none⟩) (Kd.N_mono HO_121000.out (fun k_ hk => (⟨hk, hk.2.2.1⟩ : _ ∧ k_ ≠ gb119))) (fun _ hk => hk.2) (.slice Ao42 x121000_1.length co42)) (fun _ hk => hk.1.1), by repeat (first | (with_reducible first | exact HB.out | apply below_alloc | apply pw_below_drewN | apply below_drew1 | refine below_set ?_ GE118.out | refine below_set ?_ GE119.out | refine below_set ?_ GE120.out) | exact HB.out)⟩

/-! ### cavillaw15_few: function 38 -/
def cavillaw15_few.f (k : Nat) (l0_0 : List Int) (l0_1 : List (S103)) (l0_2 : List (S33)) : Option (List Int × List (S103) × List (S33)) := (cavillaw13_Few.f k l0_2).bind fun t => some (l0_0.take 300, l0_1.take 60, t)
theorem cavillaw15_few.mono : ∀ a0 a1 a2 k, LeO (cavillaw15_few.f k a0 a1 a2) (cavillaw15_few.f (k + 1) a0 a1 a2) := by
 intro a0 a1 a2 k
 unfold cavillaw15_few.f
 exact LeO.bind (cavillaw13_Few.mono _ k) (fun _ => LeO.refl _)
set_option maxHeartbeats 4000000 in
set_option maxRecDepth 100000 in
theorem cavillaw15_few.calls (k : Nat) (P0_0_ : Nat → Prop) (A0_0 : Option Addr) (c0_0 : Nat) (l0_0 : List Int) (P0_1_ : Nat → Prop) (A0_1 : Option Addr) (c0_1 : Nat) (l0_1 : List (S103)) (P0_2_ : Nat → Prop) (A0_2 : Option Addr) (c0_2 : Nat) (l0_2 : List (S33)) (r1 : List Int) (r2 : List (S103)) (r3 : List (S33)) (w : World) (hs0_0 : Kd.V (Kd.int .u8) 5 w w.heap.size (fun k_ => P0_0_ k_) (.slice A0_0 l0_0.length c0_0) l0_0) (hs0_1 : Kd.V k103 103 w w.heap.size (fun k_ => P0_1_ k_) (.slice A0_1 l0_1.length c0_1) l0_1) (hs0_2 : Kd.V k33 33 w w.heap.size (fun k_ => P0_2_ k_) (.slice A0_2 l0_2.length c0_2) l0_2) (h : cavillaw15_few.f k l0_0 l0_1 l0_2 = some (r1, r2, r3)) :
  Calls Tryd.prog 38 #[.agg #[.slice A0_0 l0_0.length c0_0, .slice A0_1 l0_1.length c0_1, .slice A0_2 l0_2.length c0_2]] w fun e w' => ∃ v0_ v1_ v2_ : Value, e = .returned (.agg #[v0_, v1_, v2_]) ∧ Kd.V (Kd.int .u8) 5 w' w.heap.size (fun k_ => ((P0_0_ k_ ∨ P0_1_ k_ ∨ P0_2_ k_) ∨ w.heap.size ≤ k_)) v0_ r1 ∧ Kd.V k103 103 w' w.heap.size (fun k_ => ((P0_0_ k_ ∨ P0_1_ k_ ∨ P0_2_ k_) ∨ w.heap.size ≤ k_)) v1_ r2 ∧ Kd.V k33 33 w' w.heap.size (fun k_ => ((P0_0_ k_ ∨ P0_1_ k_ ∨ P0_2_ k_) ∨ w.heap.size ≤ k_)) v2_ r3 ∧ Below w.heap.size w w' := by
 obtain ⟨t, hc, h⟩ := Option.bind_eq_some_iff.mp h
 obtain ⟨e1, e2, rfl⟩ : l0_0.take 300 = r1 ∧ l0_1.take 60 = r2 ∧ t = r3 := by { simp only [Option.some.injEq, Prod.mk.injEq] at h; exact h }
 clear h
 have AS := Aside0.mk hc
 have S0 := Aside0.mk hs0_0
 have S1 := Aside0.mk hs0_1
 have S2 := Aside0.mk (show Kd.V k33 33 w w.heap.size (fun k_ => P0_2_ k_ ∧ k_ < w.heap.size) (.slice A0_2 l0_2.length c0_2) l0_2 from Kd.V_mk (Kd.V_at hs0_2).2.1 (Kd.F_bound (Kd.V_at hs0_2).2.2))
 obtain ⟨_, hl0, hf0⟩ := Kd.V_at hs0_0
 obtain ⟨_, hl1, hf1⟩ := Kd.V_at hs0_1
 obtain ⟨m0, hm0⟩ : ∃ m : Int, (if (300 : Int) < (l0_0.length : Int) then 300 else (l0_0.length : Int)) = m := ⟨_, rfl⟩
 obtain ⟨m1, hm1⟩ : ∃ m : Int, (if (60 : Int) < (l0_1.length : Int) then 60 else (l0_1.length : Int)) = m := ⟨_, rfl⟩
 have p0 : 0 ≤ m0 ∧ m0 ≤ (l0_0.length : Int) ∧ m0.toNat = r1.length := by { rw [← e1]; rw [List.length_take]; split at hm0 <;> omega }
 have p1 : 0 ≤ m1 ∧ m1 ≤ (l0_1.length : Int) ∧ m1.toNat = r2.length := by { rw [← e2]; rw [List.length_take]; split at hm1 <;> omega }
 obtain ⟨_, hi0, _, _, _⟩ := info_parts info5
 obtain ⟨_, hi1, _, _, _⟩ := info_parts info103
 have hcut0 := cut_to (P := Tryd.prog) 47 5 .i64 Tryd.underlying47 hi0 A0_0 l0_0.length c0_0 m0 p0.1 p0.2.1 hl0
 have hcut1 := cut_to (P := Tryd.prog) 66 103 .i64 Tryd.underlying66 hi1 A0_1 l0_1.length c0_1 m1 p1.1 p1.2.1 hl1
 rw [p0.2.2] at hcut0
 rw [p1.2.2] at hcut1
 have F0 := Aside0.mk (show Kd.V (Kd.int .u8) 5 w w.heap.size (fun k_ => P0_0_ k_) (.slice A0_0 r1.length c0_0) r1 from Kd.V_mk (by rw [← e1]; rw [List.length_take]; omega) (by
  rw [← e1]
  by_cases c : 300 ≤ l0_0.length
  ·exact Kd.F_take hf0 c
  ·rw [List.take_of_length_le (by omega)]; exact hf0))
 have F1 := Aside0.mk (show Kd.V k103 103 w w.heap.size (fun k_ => P0_1_ k_) (.slice A0_1 r2.length c0_1) r2 from Kd.V_mk (by rw [← e2]; rw [List.length_take]; omega) (by
  rw [← e2]
  by_cases c : 60 ≤ l0_1.length
  ·exact Kd.F_take hf1 c
  ·rw [List.take_of_length_le (by omega)]; exact hf1))
 clear e1 e2 hc hs0_0 hs0_1 hs0_2 hf0 hf1 p0 p1 hi0 hi1 hl0 hl1
 have hu := Tryd.underlying68
 go_enter Tryd.func38, Tryd.ntmps38
 go_wp2_with (first
  | ((with_reducible refine gate_dst (N := 1) rfl ?_); refine box_event ?hg (N := 1) ?hd (cs := #[.slice A0_0 l0_0.length c0_0, .slice A0_1 l0_1.length c0_1, .slice A0_2 l0_2.length c0_2]) (t := 68) ?hr ?_; (case hd => rfl); (case hg => rfl); (case hr => first | (go_simp; done) | (go_simp; rfl)); intro gb egb w2 hxb hbb; have XB := Aside0.mk hxb; have BB := Aside0.mk hbb; clear hxb hbb egb)
  | ((with_reducible refine gate_dst (N := 2) rfl ?_); refine box_event ?hg (N := 2) ?hd (cs := #[.slice none 0 0, .slice none 0 0, .slice none 0 0]) (t := 68) ?hr ?_; (case hd => rfl); (case hg => rfl); (case hr => first | (go_simp; done) | (go_simp; rfl)); intro gr egr w3 hxr hbr; have XR := Aside0.mk hxr; have BR := Aside0.mk (BB.out.trans (hbr.mono BB.out.size)); have GR := Aside0.mk (Nat.le_trans BB.out.size (Nat.le_of_eq egr.symm)); have GL := Aside0.mk (blk_lt hxr); have xb3 := blk_below XB.out hbr; have qb0 := blk_cell xb3 0; have qb1 := blk_cell xb3 1; have qb2 := blk_cell xb3 2; simp only [List.getElem?_toArray, List.getElem?_cons_zero, List.getElem?_cons_succ] at qb0 qb1 qb2; clear hxr hbr egr xb3))
 refine start_ (n := 19) (S := fun w' => w'.cell? ⟨gb, 0, none⟩ = some (.slice A0_0 l0_0.length c0_0) ∧ w'.cell? ⟨gb, 1, none⟩ = some (.slice A0_1 l0_1.length c0_1) ∧ w'.cell? ⟨gb, 2, none⟩ = some (.slice A0_2 l0_2.length c0_2) ∧ w'.heap[gr]? = some (.cells #[.slice none 0 0, .slice none 0 0, .slice none 0 0] 68 (0, 0)) ∧ Below w.heap.size w w') (ds := [18]) #[false, false, false, false, false, false, false, false, false, false, false, false, false, false, false, false, false, false, false] (by kernel_rfl) rfl rfl ⟨qb0, qb1, qb2, blk_drew XR.out, below_drew BR.out⟩ (fun hHeld => ?_)
 refine pure_ (i := 0) (N := some 3) (v := ?_) (a' := ?_) (bl_ 19 1) rfl rfl (by kernel_rfl) (fun _ _ _ h => h) (Or.inl ⟨by rfl, ?_⟩) ?_ ?_; rotate_left; { intro w'; go_simp; with_reducible rfl }; rotate_left; { simp only [Act.put, List.setIfInBounds_toArray, List.set_cons_zero, List.set_cons_succ, i64_w, i32_w]; rfl }
 refine pure_ (i := 2) (N := some 5) (v := ?_) (a' := ?_) (bl_ 19 5) rfl rfl (by kernel_rfl) (fun _ _ _ h => h) (Or.inl ⟨by rfl, ?_⟩) ?_ ?_; rotate_left; { intro w'; go_simp; with_reducible rfl }; rotate_left; { simp only [Act.put, List.setIfInBounds_toArray, List.set_cons_zero, List.set_cons_succ, i64_w, i32_w]; rfl }
 refine pure_ (i := 7) (N := some 10) (v := ?_) (a' := ?_) (bl_ 19 133) rfl rfl (by kernel_rfl) (fun _ _ _ h => h) (Or.inl ⟨by rfl, ?_⟩) ?_ ?_; rotate_left; { intro w'; go_simp; with_reducible rfl }; rotate_left; { simp only [Act.put, List.setIfInBounds_toArray, List.set_cons_zero, List.set_cons_succ, i64_w, i32_w]; rfl }
 refine pure_ (i := 9) (N := some 12) (v := ?_) (a' := ?_) (bl_ 19 645) rfl rfl (by kernel_rfl) (fun _ _ _ h => h) (Or.inl ⟨by rfl, ?_⟩) ?_ ?_; rotate_left; { intro w'; go_simp; with_reducible rfl }; rotate_left; { simp only [Act.put, List.setIfInBounds_toArray, List.set_cons_zero, List.set_cons_succ, i64_w, i32_w]; rfl }
 refine pure_ (i := 14) (N := some 17) (v := ?_) (a' := ?_) (bl_ 19 17029) rfl rfl (by kernel_rfl) (fun _ _ _ h => h) (Or.inl ⟨by rfl, ?_⟩) ?_ ?_; rotate_left; { intro w'; go_simp; with_reducible rfl }; rotate_left; { simp only [Act.put, List.setIfInBounds_toArray, List.set_cons_zero, List.set_cons_succ, i64_w, i32_w]; rfl }
 refine take_ (i := 1) (N := some 4) (v := ?_) (a' := ?_) (bl_ 19 17031) rfl rfl (by kernel_rfl) (fun _ _ _ h => h) (Or.inl ⟨by rfl, ?_⟩) hHeld ?_ ?_; rotate_left; { rintro w' ⟨s0, s1, s2, s3, s4⟩; go_simp; with_reducible rfl }; rotate_left; { simp only [Act.put, List.setIfInBounds_toArray, List.set_cons_zero, List.set_cons_succ, i64_w, i32_w]; rfl }
 refine take_ (i := 3) (N := some 6) (v := ?_) (a' := ?_) (bl_ 19 17039) rfl rfl (by kernel_rfl) (fun _ _ _ h => h) (Or.inl ⟨by rfl, ?_⟩) hHeld ?_ ?_; rotate_left; { rintro w' ⟨s0, s1, s2, s3, s4⟩; go_simp; with_reducible rfl }; rotate_left; { simp only [Act.put, List.setIfInBounds_toArray, List.set_cons_zero, List.set_cons_succ, i64_w, i32_w]; rfl }
 refine pure_ (i := 4) (N := some 7) (v := ?_) (a' := ?_) (bl_ 19 17055) rfl rfl (by kernel_rfl) (fun _ _ _ h => h) (Or.inl ⟨by rfl, ?_⟩) ?_ ?_; rotate_left; { intro w'; go_simp; with_reducible rfl }; rotate_left; { simp only [Act.put, List.setIfInBounds_toArray, List.set_cons_zero, List.set_cons_succ, i64_w, i32_w]; rfl }
 refine pure_ (i := 5) (N := some 8) (v := ?_) (a' := ?_) (bl_ 19 17087) rfl rfl (by kernel_rfl) (fun _ _ _ h => h) (Or.inl ⟨by rfl, ?_⟩) ?_ ?_; rotate_left; { intro w'; go_simp; with_reducible rfl }; rotate_left; { simp only [Act.put, List.setIfInBounds_toArray, List.set_cons_zero, List.set_cons_succ, i64_w, i32_w]; rfl }
 refine pure_ (i := 6) (N := some 9) (v := ?_) (a' := ?_) (bl_ 19 17151) rfl rfl (by kernel_rfl) (fun _ _ _ h => h) (Or.inl ⟨by rfl, ?_⟩) ?_ ?_; rotate_left; { intro w'; go_simp; with_reducible rfl }; rotate_left; { simp only [Act.put, List.setIfInBounds_toArray, List.set_cons_zero, List.set_cons_succ, i64_w, i32_w]; rfl }
 refine take_ (i := 8) (N := some 11) (v := ?_) (a' := ?_) (bl_ 19 17407) rfl rfl (by kernel_rfl) (fun _ _ _ h => h) (Or.inl ⟨by rfl, ?_⟩) hHeld ?_ ?_; rotate_left; { rintro w' ⟨s0, s1, s2, s3, s4⟩; go_simp; with_reducible rfl }; rotate_left; { simp only [Act.put, List.setIfInBounds_toArray, List.set_cons_zero, List.set_cons_succ, i64_w, i32_w]; rfl }
 refine take_ (i := 10) (N := some 13) (v := ?_) (a' := ?_) (bl_ 19 18431) rfl rfl (by kernel_rfl) (fun _ _ _ h => h) (Or.inl ⟨by rfl, ?_⟩) hHeld ?_ ?_; rotate_left; { rintro w' ⟨s0, s1, s2, s3, s4⟩; go_simp; with_reducible rfl }; rotate_left; { simp only [Act.put, List.setIfInBounds_toArray, List.set_cons_zero, List.set_cons_succ, i64_w, i32_w]; rfl }
 refine pure_ (i := 11) (N := some 14) (v := ?_) (a' := ?_) (bl_ 19 20479) rfl rfl (by kernel_rfl) (fun _ _ _ h => h) (Or.inl ⟨by rfl, ?_⟩) ?_ ?_; rotate_left; { intro w'; go_simp; with_reducible rfl }; rotate_left; { simp only [Act.put, List.setIfInBounds_toArray, List.set_cons_zero, List.set_cons_succ, i64_w, i32_w]; rfl }
 refine pure_ (i := 12) (N := some 15) (v := ?_) (a' := ?_) (bl_ 19 24575) rfl rfl (by kernel_rfl) (fun _ _ _ h => h) (Or.inl ⟨by rfl, ?_⟩) ?_ ?_; rotate_left; { intro w'; go_simp; with_reducible rfl }; rotate_left; { simp only [Act.put, List.setIfInBounds_toArray, List.set_cons_zero, List.set_cons_succ, i64_w, i32_w]; rfl }
 refine pure_ (i := 13) (N := some 16) (v := ?_) (a' := ?_) (bl_ 19 32767) rfl rfl (by kernel_rfl) (fun _ _ _ h => h) (Or.inl ⟨by rfl, ?_⟩) ?_ ?_; rotate_left; { intro w'; go_simp; with_reducible rfl }; rotate_left; { simp only [Act.put, List.setIfInBounds_toArray, List.set_cons_zero, List.set_cons_succ, i64_w, i32_w]; rfl }
 refine take_ (i := 15) (N := some 18) (v := ?_) (a' := ?_) (bl_ 19 65535) rfl rfl (by kernel_rfl) (fun _ _ _ h => h) (Or.inl ⟨by rfl, ?_⟩) hHeld ?_ ?_; rotate_left; { rintro w' ⟨s0, s1, s2, s3, s4⟩; go_simp; with_reducible rfl }; rotate_left; { simp only [Act.put, List.setIfInBounds_toArray, List.set_cons_zero, List.set_cons_succ, i64_w, i32_w]; rfl }
 refine one_ (i := 16) (N := some 19) (bl_ 19 131071) rfl rfl (by kernel_rfl) (by decide) (fun K hK => ?_)
 obtain ⟨s0, s1, s2, s3, s4⟩ := hHeld
 refine goes_ Tryd.func10 (by kernel_rfl) rfl #[.agg #[.slice A0_2 l0_2.length c0_2]] (by rfl) rfl rfl (by simp only [List.map_toArray, List.map_cons, List.map_nil]; rfl) ?_
 have v2 := Kd.V_below S2.out s4
 refine (cavillaw13_Few.calls k (fun k_ => P0_2_ k_ ∧ k_ < w.heap.size) _ _ l0_2 t w3.drew v2 AS.out).mono ?_
 rintro e w6 ⟨v6, rfl, ho6, hb6⟩
 refine ⟨_, rfl, ?_⟩
 obtain ⟨A6, c6, e6⟩ := Kd.N_slice ho6
 subst e6
 have b6 := s4.trans (hb6.mono s4.size)
 have x6 := blk_below s3 hb6
 have g6 : w.heap.size ≤ _ := s4.size
 have O6 := Aside0.mk (Kd.V_mono (base := w.heap.size) (Kd.N_V ho6) (ok' := fun k_ => (P0_2_ k_ ∨ w.heap.size ≤ k_) ∧ k_ ≠ gr) (fun k hk => Or.elim hk (fun h => ⟨.inl h.1, fun e => by have := GR.out; omega⟩) (fun h => ⟨.inr (Nat.le_trans g6 h), fun e => by have h1 := GL.out; have h2 : w3.heap.size ≤ k := h; omega⟩)))
 refine hK.out _ _ ⟨(hb6.cell (World.block_lt_of_cell? _ _ s0)).trans s0, (hb6.cell (World.block_lt_of_cell? _ _ s1)).trans s1, (hb6.cell (World.block_lt_of_cell? _ _ s2)).trans s2, x6, b6⟩ (fun hHeld => ?_)
 clear hK K
 refine norm_ (a' := ?_) ?_ ?_; rotate_left; { show Act.put _ (some 19) _ = _; simp only [Act.put, List.setIfInBounds_toArray, List.set_cons_zero, List.set_cons_succ, i64_w, i32_w]; rfl }
 refine pure_ (i := 17) (N := some 20) (v := ?_) (a' := ?_) (bl_ 19 262143) rfl rfl (by kernel_rfl) (fun _ _ _ h => h) (Or.inl ⟨by rfl, ?_⟩) ?_ ?_; rotate_left; { intro w'; go_simp; with_reducible rfl }; rotate_left; { simp only [Act.put, List.setIfInBounds_toArray, List.set_cons_zero, List.set_cons_succ, i64_w, i32_w]; rfl }
 refine last_ (i := 18) (N := none) (bl_ 19 524287) rfl rfl (by kernel_rfl) (by decide) (fun K hK => ?_)
 obtain ⟨s0, s1, s2, s3, s4⟩ := hHeld
 have y0 := blk_cell s3 0
 have y1 := blk_cell s3 1
 have y2 := blk_cell s3 2
 have z0 := blk_frozen s3 0
 have z1 := blk_frozen s3 1
 have z2 := blk_frozen s3 2
 simp only [List.getElem?_toArray, List.getElem?_cons_zero, List.getElem?_cons_succ] at y0 y1 y2
 refine skip_ (w1 := ?_) (by rfl) rfl ?_ ?_; rotate_left; { go_simp; rfl }
 have X7 := Aside0.mk s3
 have B7 := Aside0.mk s4
 refine hK.out _ _ ?_
 clear hK K
 refine done_ (by kernel_rfl) ?_

 go_wp2
 refine bodyPost_ret (results_cell_row rfl _ _ gr 68 #[.slice A0_0 r1.length c0_0, .slice A0_1 r2.length c0_1, .slice A6 t.length c6] (0, 0) _ rfl (blk_put (blk_put (blk_put X7.out 0 _ rfl) 1 _ rfl) 2 _ rfl) Tryd.underlying68 rfl (by kernel_rfl)) rfl ?_
 have st := fun (W : World) (j : Nat) (u : Value) (hb : Below w.heap.size w W) => hb.setCell (p := ⟨gr, j, none⟩) GR.out u
 have hlt : ∀ k, k < w.heap.size → k ≠ gr := fun k hk e => by have := GR.out; omega
 have mv : ∀ {α : Type} {d : Kd α} {e : Nat} {ok : Nat → Prop} {v : Value} {xs : List α} (u0 u1 u2 : Value), Kd.V d e w w.heap.size ok v xs → Kd.V d e (((w6.setCell ⟨gr, 0, none⟩ u0).setCell ⟨gr, 1, none⟩ u1).setCell ⟨gr, 2, none⟩ u2) w.heap.size ok v xs := fun u0 u1 u2 h => Kd.V_below h (st _ 2 _ (st _ 1 _ (st _ 0 _ B7.out)))
 have fr : ∀ (u0 u1 u2 : Value), Kd.V k33 33 (((w6.setCell ⟨gr, 0, none⟩ u0).setCell ⟨gr, 1, none⟩ u1).setCell ⟨gr, 2, none⟩ u2) w.heap.size (fun k_ => (P0_2_ k_ ∨ w.heap.size ≤ k_) ∧ k_ ≠ gr) (.slice A6 t.length c6) t := fun u0 u1 u2 => Kd.V_mk (Kd.V_at O6.out).2.1 (Kd.F_far (p := ⟨gr, 2, none⟩) (Kd.F_far (p := ⟨gr, 1, none⟩) (Kd.F_far (p := ⟨gr, 0, none⟩) (Kd.V_at O6.out).2.2 (fun _ h => h.2) _) (fun _ h => h.2) _) (fun _ h => h.2) _)
 exact ⟨_, _, _, rfl, Kd.V_mono (mv _ _ _ F0.out) fun k hk => .inl (.inl hk), Kd.V_mono (mv _ _ _ F1.out) fun k hk => .inl (.inr (.inl hk)), Kd.V_mono (fr _ _ _) fun k hk => Or.elim hk.1 (fun h => .inl (.inr (.inr h))) .inr, st _ 2 _ (st _ 1 _ (st _ 0 _ B7.out))⟩

end Go.Proofs.YtnpgadfoohjlnaaDoor.QV
