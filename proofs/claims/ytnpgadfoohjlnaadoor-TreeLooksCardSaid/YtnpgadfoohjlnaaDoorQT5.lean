/- Where a Lean function of this text answers, the Go function of its name comes to that answer: no other condition. Written by a program of this session out of the translation; Lean checks it. -/
import Derived.Test.YtnpgadfoohjlnaaDoorQT0
import Derived.Test.YtnpgadfoohjlnaaDoorQT2
namespace Go.Proofs.YtnpgadfoohjlnaaDoor.QT
open Go.RowKit Go.Proofs.YtnpgadfoohjlnaaDoorW.PrintWords Go.Proofs.YtnpgadfoohjlnaaDoorW.PrintLast Go.Proofs.YtnpgadfoohjlnaaDoorW.PrintMore Go.Proofs.YtnpgadfoohjlnaaDoorW.PrintX
attribute [local go_sem] max2_int min2_int max_two min_two max_three min_three max_four min_four   -- for this text's walks alone
set_option linter.unusedVariables false
set_option linter.unusedSimpArgs false

/-! ### cavillaw01_Off: function 14 -/
section
open Go.Extern Go.Stop Go.Extern.Stop
theorem errors_As.vOfP (t : Addr) (w : World) : (callFunc 74 #[.iface 87 (.pointer (some t))]).run Tryd.prog w = .ok (.value (.agg #[.pointer (some ⟨4, 87, none⟩), .pointer (some ⟨w.heap.size, 0, none⟩), .int .u64 150])) (w.alloc (.cells #[.pointer (some t)] 87)) := by kernel_rfl
theorem errors_As.vTypeP (a : Addr) (w : World) : (callFunc 75 #[.agg #[.pointer (some ⟨4, 87, none⟩), .pointer (some a), .int .u64 150]]).run Tryd.prog w = .ok (.value (.iface 127 (.agg #[.pointer (some ⟨4, 87, none⟩)]))) w := by kernel_rfl
theorem errors_As.mKind (h : Value) (w : World) : (Go.method 286 127 (.agg #[h]) "Kind").run Tryd.prog w = .ok (115, h) w := by kernel_rfl
theorem errors_As.mElem (h : Value) (w : World) : (Go.method 286 127 (.agg #[h]) "Elem").run Tryd.prog w = .ok (129, .agg #[h]) w := by kernel_rfl
theorem errors_As.mImpl (h : Value) (w : World) : (Go.method 286 127 (.agg #[h]) "Implements").run Tryd.prog w = .ok (130, .agg #[h]) w := by kernel_rfl
theorem errors_As.mAss (h : Value) (w : World) : (Go.method 286 127 (.agg #[h]) "AssignableTo").run Tryd.prog w = .ok (127, .agg #[h]) w := by kernel_rfl
theorem errors_As.kindP (w : World) : (callFunc 115 #[.pointer (some ⟨4, 87, none⟩)]).run Tryd.prog w = .ok (.value (.int .u8 22)) w := by kernel_rfl
theorem errors_As.kindA (w : World) : (callFunc 115 #[.pointer (some ⟨4, 84, none⟩)]).run Tryd.prog w = .ok (.value (.int .u8 25)) w := by kernel_rfl
theorem errors_As.elemP (w : World) : (callFunc 129 #[.agg #[.pointer (some ⟨4, 87, none⟩)]]).run Tryd.prog w = .ok (.value (.iface 127 (.agg #[.pointer (some ⟨4, 84, none⟩)]))) w := by kernel_rfl
theorem errors_As.implA (w : World) : (callFunc 130 #[.agg #[.pointer (some ⟨4, 84, none⟩)], .iface 127 (.agg #[.pointer (some ⟨4, 27, none⟩)])]).run Tryd.prog w = .ok (.value (.bool true)) w := by kernel_rfl
theorem errors_As.tOfA (v : Value) (w : World) : (callFunc 72 #[.iface 84 v]).run Tryd.prog w = .ok (.value (.iface 127 (.agg #[.pointer (some ⟨4, 84, none⟩)]))) w := by kernel_rfl
theorem errors_As.tOfE (v : Value) (w : World) : (callFunc 72 #[.iface 82 v]).run Tryd.prog w = .ok (.value (.iface 127 (.agg #[.pointer (some ⟨4, 82, none⟩)]))) w := by kernel_rfl
theorem errors_As.assA (w : World) : (callFunc 127 #[.agg #[.pointer (some ⟨4, 84, none⟩)], .iface 127 (.agg #[.pointer (some ⟨4, 84, none⟩)])]).run Tryd.prog w = .ok (.value (.bool true)) w := by kernel_rfl
theorem errors_As.assE (w : World) : (callFunc 127 #[.agg #[.pointer (some ⟨4, 82, none⟩)], .iface 127 (.agg #[.pointer (some ⟨4, 84, none⟩)])]).run Tryd.prog w = .ok (.value (.bool false)) w := by kernel_rfl
theorem errors_As.vOfA (o e : Value) (w : World) : (callFunc 74 #[.iface 84 (.agg #[o, e])]).run Tryd.prog w = .ok (.value (.agg #[.pointer (some ⟨4, 84, none⟩), .pointer (some ⟨w.heap.size, 0, none⟩), .int .u64 153])) (w.alloc (.cells #[o, e] 84)) := by kernel_rfl
theorem errors_As.rlm (z : Sem Value) (f : TypeId → Addr → Nat → Nat → Sem Value) (v : Value) :
    ReflectliteValue.method z f #[v] = (do match ← ReflectliteValue.parts v with | none => z | some (t, a, fl) => f t a fl (fl % 32)) := rfl
theorem errors_As.partsP (a : Addr) (w : World) : (ReflectliteValue.parts (.agg #[.pointer (some ⟨4, 87, none⟩), .pointer (some a), .int .u64 150])).run Tryd.prog w = .ok (some (87, a, 150)) w := by kernel_rfl
theorem errors_As.isNilP (a p : Addr) (W : World) (ha : W.cell? a = some (.pointer (some p))) :
    (callFunc 76 #[.agg #[.pointer (some ⟨4, 87, none⟩), .pointer (some a), .int .u64 150]]).run Tryd.prog W = .ok (.value (.bool false)) W := by
  rw [@run_callFunc_extern Tryd.prog 76 _ (ReflectliteValue.method (ReflectliteValue.valueError "reflectlite.Value.IsNil" 0) ReflectliteValue.isNil) Tryd.func76 (by kernel_rfl) (by kernel_rfl) (by kernel_rfl) (by kernel_rfl), errors_As.rlm]
  simp only [Sem.run_bind, errors_As.partsP, Result.andThen]
  simp [ReflectliteValue.isNil, loadVar, isAgg, underlying, Tryd.underlying87, ha, Result.andThen]
theorem errors_As.elemOfP (w : World) : (Rtype.elem? 87).run Tryd.prog w = .ok (some 84) w := by kernel_rfl
theorem errors_As.mkA (p : Addr) (w : World) : (ReflectliteValue.mk 84 p ReflectliteValue.flagAddr).run Tryd.prog w = .ok (.agg #[.pointer (some ⟨4, 84, none⟩), .pointer (some p), .int .u64 409]) w := by kernel_rfl
theorem errors_As.elemVP (a p : Addr) (W : World) (ha : W.cell? a = some (.pointer (some p))) :
    (callFunc 84 #[.agg #[.pointer (some ⟨4, 87, none⟩), .pointer (some a), .int .u64 150]]).run Tryd.prog W = .ok (.value (.agg #[.pointer (some ⟨4, 84, none⟩), .pointer (some p), .int .u64 409])) W := by
  rw [@run_callFunc_extern Tryd.prog 84 _ (ReflectliteValue.method (ReflectliteValue.valueError "reflectlite.Value.Elem" 0) ReflectliteValue.elem) Tryd.func84 (by kernel_rfl) (by kernel_rfl) (by kernel_rfl) (by kernel_rfl), errors_As.rlm]
  simp only [Sem.run_bind, errors_As.partsP, Result.andThen]
  simp [ReflectliteValue.elem, loadVar, isAgg, underlying, Tryd.underlying87, ha, Result.andThen, errors_As.elemOfP, errors_As.mkA]
theorem errors_As.partsAa (a : Addr) (w : World) : (ReflectliteValue.parts (.agg #[.pointer (some ⟨4, 84, none⟩), .pointer (some a), .int .u64 409])).run Tryd.prog w = .ok (some (84, a, 409)) w := by kernel_rfl
theorem errors_As.partsA (a : Addr) (w : World) : (ReflectliteValue.parts (.agg #[.pointer (some ⟨4, 84, none⟩), .pointer (some a), .int .u64 153])).run Tryd.prog w = .ok (some (84, a, 153)) w := by kernel_rfl
theorem errors_As.directA (w : World) : (Rtype.directlyAssignable 84 84).run Tryd.prog w = .ok true w := by kernel_rfl
theorem errors_As.rls (v x : Value) : ReflectliteValue.set #[v, x] = (do
    let (some (dst, a, fl), some (src, b, _)) := (← ReflectliteValue.parts v, ← ReflectliteValue.parts x)
      | unsupported (.noEntry "extern/(internal/reflectlite.Value).Set.zeroValue")
    if fl / ReflectliteValue.flagAddr % 2 == 0 then unsupported (.noEntry "extern/(internal/reflectlite.Value).Set.unaddressable")
    let val ← loadVar src b
    if ← Rtype.directlyAssignable dst src then storeVar dst a val
    else if ← Rtype.implements dst src then
      if (← Rtype.kind src) == 20 then
        match val with
        | .nilIface => unsupported (.noEntry "extern/reflectlite: a nil value of one interface type handed on as a value of another")
        | _ => storeVar dst a val
      else storeVar dst a (.iface src val)
    else panicString ("reflectlite.Set: value of type " ++ (← Rtype.spelt src) ++ " is not assignable to type " ++ (← Rtype.spelt dst))
    pure (.tuple #[])) := rfl
theorem errors_As.loadA (o e : Value) (b : Nat) (W : World) (hb0 : W.cell? ⟨b, 0, none⟩ = some o) (hb1 : W.cell? ⟨b, 1, none⟩ = some e) : (loadVar 84 ⟨b, 0, none⟩).run Tryd.prog W = .ok (.agg #[o, e]) W := by
  have h := run_loadCells_list (P := Tryd.prog) (w := W) ⟨b, 0, none⟩ [o, e] (fun j v hj => by
    match j, hj with
    | 0, hj => cases hj; exact hb0
    | 1, hj => cases hj; exact hb1)
  simp [loadVar, isAgg, underlying, Tryd.underlying84]
  simp only [List.length_cons, List.length_nil, Nat.zero_add, Nat.reduceAdd] at h
  rw [h]
  rfl
theorem errors_As.storeA (o e o' e' : Value) (t : Nat) (W : World) (h1 : o.oneCell' = true) (h2 : e.oneCell' = true) (ht0 : W.cell? ⟨t, 0, none⟩ = some o') (ht1 : W.cell? ⟨t, 1, none⟩ = some e') (hf0 : W.frozen? ⟨t, 0, none⟩ = false) (hf1 : W.frozen? ⟨t, 1, none⟩ = false) :
    (storeVar 84 ⟨t, 0, none⟩ (.agg #[o, e])).run Tryd.prog W = .ok () ((W.setCell ⟨t, 0, none⟩ o).setCell ⟨t, 1, none⟩ e) := by
  have hc : (W.setCell ⟨t, 0, none⟩ o).cell? ⟨t, 1, none⟩ = some e' := (World.cell?_setCell_other W ⟨t, 0, none⟩ ⟨t, 1, none⟩ o (by simp)).trans ht1
  have hz : (W.setCell ⟨t, 0, none⟩ o).frozen? ⟨t, 1, none⟩ = false := by rw [World.frozen?_setCell]; exact hf1
  simp [storeVar, Value.cells, storeCells, Addr.add]
  rw [run_store Tryd.prog W _ _ _ h1]
  simp [ht0, hf0, Result.andThen]
  rw [run_store Tryd.prog _ _ _ _ h2]
  simp [hc, hz]
theorem errors_As.setA (o e o' e' : Value) (t b : Nat) (W : World) (h1 : o.oneCell' = true) (h2 : e.oneCell' = true) (hb0 : W.cell? ⟨b, 0, none⟩ = some o) (hb1 : W.cell? ⟨b, 1, none⟩ = some e) (ht0 : W.cell? ⟨t, 0, none⟩ = some o') (ht1 : W.cell? ⟨t, 1, none⟩ = some e') (hf0 : W.frozen? ⟨t, 0, none⟩ = false) (hf1 : W.frozen? ⟨t, 1, none⟩ = false) :
    (callFunc 85 #[.agg #[.pointer (some ⟨4, 84, none⟩), .pointer (some ⟨t, 0, none⟩), .int .u64 409], .agg #[.pointer (some ⟨4, 84, none⟩), .pointer (some ⟨b, 0, none⟩), .int .u64 153]]).run Tryd.prog W = .ok (.value (.tuple #[])) ((W.setCell ⟨t, 0, none⟩ o).setCell ⟨t, 1, none⟩ e) := by
  rw [@run_callFunc_extern Tryd.prog 85 _ ReflectliteValue.set Tryd.func85 (by kernel_rfl) (by kernel_rfl) (by kernel_rfl) (by kernel_rfl), errors_As.rls]
  simp only [Sem.run_bind, errors_As.partsAa, errors_As.partsA, Result.andThen]
  simp [ReflectliteValue.flagAddr, errors_As.loadA o e b W hb0 hb1, Result.andThen, errors_As.directA, errors_As.storeA o e o' e' t W h1 h2 ht0 ht1 hf0 hf1]
theorem errors_As.noAs84 (v : Value) (xT : TypeId) (w : World) : (Instr.typeAssert (.iface 82 v) xT 139 true).run Tryd.prog w = .ok (.tuple #[.nilIface, .bool false]) w := Go.run_typeAssert_lacksB Tryd.underlying139 (by kernel_rfl) (by kernel_rfl) v xT w
theorem errors_As.noUnwrapE (v : Value) (xT : TypeId) (w : World) : (Instr.typeAssert (.iface 82 v) xT 132 true).run Tryd.prog w = .ok (.tuple #[.nilIface, .bool false]) w := Go.run_typeAssert_lacksB Tryd.underlying132 (by kernel_rfl) (by kernel_rfl) v xT w
theorem errors_As.noUnwrapsE (v : Value) (xT : TypeId) (w : World) : (Instr.typeAssert (.iface 82 v) xT 134 true).run Tryd.prog w = .ok (.tuple #[.nilIface, .bool false]) w := Go.run_typeAssert_lacksB Tryd.underlying134 (by kernel_rfl) (by kernel_rfl) v xT w
/-- errors.As(At{o, e}, &a): the variable gets the error. -/
theorem errors_As.as_hit (B t : Nat) (o e o' e' : Value) (w : World) (ho : o.oneCell' = true) (he : e.oneCell' = true) (hg : w.cell? ⟨0, 0, none⟩ = some (.iface 127 (.agg #[.pointer (some ⟨4, 27, none⟩)]))) (ht : w.heap[t]? = some (.cells #[o', e'] 84 (0, 0))) (hB : B ≤ t) (hBw : B ≤ w.heap.size) :
    Calls Tryd.prog 54 #[.iface 84 (.agg #[o, e]), .iface 87 (.pointer (some ⟨t, 0, none⟩))] w fun ev w' => ev = .returned (.bool true) ∧ w'.heap[t]? = some (.cells #[o, e] 84 (0, 0)) ∧ Below B w w' := by
  have f1 := errors_As.vOfP
  have f2 := errors_As.vTypeP
  have f3 := errors_As.mKind
  have f4 := errors_As.mElem
  have f5 := errors_As.mImpl
  have f6 := errors_As.mAss
  have f7 := errors_As.kindP
  have f8 := errors_As.kindA
  have f9 := errors_As.elemP
  have f10 := errors_As.implA
  have f11 := errors_As.tOfA
  have f12 := errors_As.assA
  have f13 := errors_As.vOfA
  have htl : t < w.heap.size := by
    rcases Nat.lt_or_ge t w.heap.size with h | h
    · exact h
    · rw [Array.getElem?_eq_none h] at ht
      cases ht
  have hlt : 0 < w.heap.size := by omega
  have ht0 : w.cell? ⟨t, 0, none⟩ = some o' := by simp [World.cell?, ht]
  have ht1 : w.cell? ⟨t, 1, none⟩ = some e' := by simp [World.cell?, ht]
  have hf0 : w.frozen? ⟨t, 0, none⟩ = false := by simp [World.frozen?, ht]
  have hf1 : w.frozen? ⟨t, 1, none⟩ = false := by simp [World.frozen?, ht]
  obtain ⟨w1, hw1⟩ : ∃ w1, w1 = w.alloc (.cells #[.pointer (some ⟨t, 0, none⟩)] 87) := ⟨_, rfl⟩
  obtain ⟨w2, hw2⟩ : ∃ w2, w2 = w1.alloc (.cells #[.pointer (some ⟨4, 87, none⟩), .pointer (some ⟨w.heap.size, 0, none⟩), .int .u64 150] 114) := ⟨_, rfl⟩
  obtain ⟨w3, hw3⟩ : ∃ w3, w3 = w2.alloc (.cells #[.pointer (some ⟨4, 87, none⟩), .pointer (some ⟨w.heap.size, 0, none⟩), .int .u64 150] 114) := ⟨_, rfl⟩
  obtain ⟨w4, hw4⟩ : ∃ w4, w4 = w3.alloc (.cells #[o, e] 84) := ⟨_, rfl⟩
  have s1 : w1.heap.size = w.heap.size + 1 := by rw [hw1]; simp
  have s2 : w2.heap.size = w.heap.size + 2 := by rw [hw2]; simp [s1]
  have s3 : w3.heap.size = w.heap.size + 3 := by rw [hw3]; simp [s2]
  have b1 : Below w.heap.size w w1 := by rw [hw1]; exact (Below.refl _ _).alloc (Nat.le_refl _) _
  have b2 : Below w.heap.size w w2 := by rw [hw2]; exact b1.alloc (by omega) _
  have b3 : Below w.heap.size w w3 := by rw [hw3]; exact b2.alloc (by omega) _
  have b4 : Below w.heap.size w w4 := by rw [hw4]; exact b3.alloc (by omega) _
  have c1 : w1.cell? ⟨w.heap.size, 0, none⟩ = some (.pointer (some ⟨t, 0, none⟩)) := by rw [hw1, World.cell?_alloc_at _ _ _ _ (by simp)]; rfl
  have c2 : w2.cell? ⟨w.heap.size, 0, none⟩ = some (.pointer (some ⟨t, 0, none⟩)) := by rw [hw2, World.cell?_alloc_lt _ _ _ (by simp; omega)]; exact c1
  have c3 : w3.cell? ⟨w.heap.size, 0, none⟩ = some (.pointer (some ⟨t, 0, none⟩)) := by rw [hw3, World.cell?_alloc_lt _ _ _ (by simp; omega)]; exact c2
  have g2 : w2.cell? ⟨0, 0, none⟩ = some (.iface 127 (.agg #[.pointer (some ⟨4, 27, none⟩)])) := (b2.cell (p := ⟨0, 0, none⟩) hlt).trans hg
  have n2 := errors_As.isNilP ⟨w.heap.size, 0, none⟩ ⟨t, 0, none⟩ w2 c2
  have el := errors_As.elemVP ⟨w.heap.size, 0, none⟩ ⟨t, 0, none⟩ w3 c3
  have d0 : w4.cell? ⟨w3.heap.size, 0, none⟩ = some o := by rw [hw4, World.cell?_alloc_at _ _ _ _ (by simp)]; rfl
  have d1 : w4.cell? ⟨w3.heap.size, 1, none⟩ = some e := by rw [hw4, World.cell?_alloc_at _ _ _ _ (by simp)]; rfl
  have st := errors_As.setA o e o' e' t w3.heap.size w4 ho he d0 d1 ((b4.cell (p := ⟨t, 0, none⟩) htl).trans ht0) ((b4.cell (p := ⟨t, 1, none⟩) htl).trans ht1) ((b4.frozen (p := ⟨t, 0, none⟩) htl).trans hf0) ((b4.frozen (p := ⟨t, 1, none⟩) htl).trans hf1)
  have k4 : w4.heap[t]? = some (.cells #[o', e'] 84 (0, 0)) := (b4.block t htl).trans ht
  rw [hw4, hw3, hw2, hw1] at st
  rw [hw3, hw2, hw1] at el
  rw [hw2, hw1] at n2 g2
  simp only [World.size_alloc] at st el n2 g2
  go_enter Tryd.func54, Tryd.ntmps54
  go_wp2
  refine wp_loop_rounds 1 ?_
  rw [rounds_succ]
  go_wp2
  go_ret
  have q4 := blk_put (blk_put k4 0 o rfl) 1 e rfl
  have q5 := ((b4.mono hBw).setCell (p := ⟨t, 0, none⟩) hB o).setCell (p := ⟨t, 1, none⟩) hB e
  rw [hw4, hw3, hw2, hw1] at q4 q5
  exact ⟨rfl, q4, q5⟩
/-- errors.As(number, &a): no. -/
theorem errors_As.as_miss (t : Nat) (c : Int) (o' e' : Value) (w : World) (hg : w.cell? ⟨0, 0, none⟩ = some (.iface 127 (.agg #[.pointer (some ⟨4, 27, none⟩)]))) (ht : w.heap[t]? = some (.cells #[o', e'] 84 (0, 0))) :
    Calls Tryd.prog 54 #[.iface 82 (.int .i64 c), .iface 87 (.pointer (some ⟨t, 0, none⟩))] w fun ev w' => ev = .returned (.bool false) ∧ Below w.heap.size w w' := by
  have f1 := errors_As.vOfP
  have f2 := errors_As.vTypeP
  have f3 := errors_As.mKind
  have f4 := errors_As.mElem
  have f5 := errors_As.mImpl
  have f6 := errors_As.mAss
  have f7 := errors_As.kindP
  have f8 := errors_As.kindA
  have f9 := errors_As.elemP
  have f10 := errors_As.implA
  have f11 := errors_As.tOfE
  have f12 := errors_As.assE
  have f13 := errors_As.noAs84
  have f14 := errors_As.noUnwrapE
  have f15 := errors_As.noUnwrapsE
  have htl : t < w.heap.size := by
    rcases Nat.lt_or_ge t w.heap.size with h | h
    · exact h
    · rw [Array.getElem?_eq_none h] at ht
      cases ht
  have hlt : 0 < w.heap.size := by omega
  obtain ⟨w1, hw1⟩ : ∃ w1, w1 = w.alloc (.cells #[.pointer (some ⟨t, 0, none⟩)] 87) := ⟨_, rfl⟩
  obtain ⟨w2, hw2⟩ : ∃ w2, w2 = w1.alloc (.cells #[.pointer (some ⟨4, 87, none⟩), .pointer (some ⟨w.heap.size, 0, none⟩), .int .u64 150] 114) := ⟨_, rfl⟩
  obtain ⟨w3, hw3⟩ : ∃ w3, w3 = w2.alloc (.cells #[.pointer (some ⟨4, 87, none⟩), .pointer (some ⟨w.heap.size, 0, none⟩), .int .u64 150] 114) := ⟨_, rfl⟩
  have s1 : w1.heap.size = w.heap.size + 1 := by rw [hw1]; simp
  have s2 : w2.heap.size = w.heap.size + 2 := by rw [hw2]; simp [s1]
  have b1 : Below w.heap.size w w1 := by rw [hw1]; exact (Below.refl _ _).alloc (Nat.le_refl _) _
  have b2 : Below w.heap.size w w2 := by rw [hw2]; exact b1.alloc (by omega) _
  have b3 : Below w.heap.size w w3 := by rw [hw3]; exact b2.alloc (by omega) _
  have c1 : w1.cell? ⟨w.heap.size, 0, none⟩ = some (.pointer (some ⟨t, 0, none⟩)) := by rw [hw1, World.cell?_alloc_at _ _ _ _ (by simp)]; rfl
  have c2 : w2.cell? ⟨w.heap.size, 0, none⟩ = some (.pointer (some ⟨t, 0, none⟩)) := by rw [hw2, World.cell?_alloc_lt _ _ _ (by simp; omega)]; exact c1
  have g2 : w2.cell? ⟨0, 0, none⟩ = some (.iface 127 (.agg #[.pointer (some ⟨4, 27, none⟩)])) := (b2.cell (p := ⟨0, 0, none⟩) hlt).trans hg
  have n2 := errors_As.isNilP ⟨w.heap.size, 0, none⟩ ⟨t, 0, none⟩ w2 c2
  rw [hw2, hw1] at n2 g2
  go_enter Tryd.func54, Tryd.ntmps54
  go_wp2
  refine wp_loop_rounds 1 ?_
  rw [rounds_succ]
  go_wp2
  go_ret
  have q5 := b3
  rw [hw3, hw2, hw1] at q5
  exact ⟨rfl, q5⟩
end
def cavillaw01_Off.f (a0 : Option Er) : Option Int := match a0 with
  | none => some (-1)
  | some (.no _) => some (-1)
  | some (.at_ o _) => some o
theorem cavillaw01_Off.one (e : Er) : (Value.iface (erT e) (erV e)).oneCell' = true := rfl
theorem cavillaw01_Off.calls (a0 : Option Er) (r : Int) (w : World) (hG : GL_ w) (h : cavillaw01_Off.f a0 = some r) :
    Calls Tryd.prog 14 #[errW a0] w fun e w' => e = .returned (.int .i64 r) ∧ Below w.heap.size w w' := by
  have hu := Tryd.underlying84
  rcases a0 with _ | (c | ⟨o, e⟩)
  · cases h
    simp only [errW_none]
    go_enter Tryd.func14, Tryd.ntmps14
    go_wp2_with (first | ((with_reducible refine gate_dst (N := 3) rfl ?_); refine box_event ?hg (N := 3) ?hd (cs := #[.int .i64 0, .nilIface]) (t := 84) ?hr ?_; (case hd => rfl); (case hg => rfl); (case hr => first | (go_simp; done) | (go_simp; rfl)); intro t egt w2 hxt hbt; have sgt := Nat.le_of_eq egt.symm; clear egt))
    go_ret
    exact ⟨rfl, hbt⟩
  · cases h
    simp only [errW_some, erT_no, erV_no]
    go_enter Tryd.func14, Tryd.ntmps14
    go_wp2_with (first | ((with_reducible refine gate_dst (N := 3) rfl ?_); refine box_event ?hg (N := 3) ?hd (cs := #[.int .i64 0, .nilIface]) (t := 84) ?hr ?_; (case hd => rfl); (case hg => rfl); (case hr => first | (go_simp; done) | (go_simp; rfl)); intro t egt w2 hxt hbt; have sgt := Nat.le_of_eq egt.symm; clear egt) | (go_at_call 54; (refine (errors_As.as_miss t c _ _ _ (GL_below hG hbt) hxt).mono ?_); rintro e_ w3 ⟨rfl, hb3⟩))
    go_ret
    exact ⟨rfl, hbt.trans (hb3.mono hbt.size)⟩
  · cases h
    simp only [errW_some, erT_at, erV_at]
    go_enter Tryd.func14, Tryd.ntmps14
    go_wp2_with (first | ((with_reducible refine gate_dst (N := 3) rfl ?_); refine box_event ?hg (N := 3) ?hd (cs := #[.int .i64 0, .nilIface]) (t := 84) ?hr ?_; (case hd => rfl); (case hg => rfl); (case hr => first | (go_simp; done) | (go_simp; rfl)); intro t egt w2 hxt hbt; have sgt := Nat.le_of_eq egt.symm; clear egt) | (go_at_call 54; (refine (errors_As.as_hit w.heap.size t (.int .i64 _) (.iface (erT e) (erV e)) _ _ _ rfl rfl (GL_below hG hbt) hxt sgt hbt.size).mono ?_); rintro e_ w3 ⟨rfl, hx3, hb3⟩; have q0 := blk_cell hx3 0; simp only [List.getElem?_toArray, List.getElem?_cons_zero] at q0))
    go_ret
    exact ⟨rfl, hbt.trans hb3⟩

/-! ### tree_sound: function 56 -/
def tree_sound.f (k : Nat) (l0_0 : List (S33)) : Option (Option Er) := if (l0_0.length : Int) = 0 then (some (some (Er.no 7))) else (if 0 ≤ (wrap64 ((l0_0.length : Int) - 1)) then (if (wrap64 ((l0_0.length : Int) - 1)) < (l0_0.length : Int) then ((tree_Check.f k l0_0 ((rd_T33 l0_0 (wrap64 ((l0_0.length : Int) - 1))).f2)).bind fun t157 => (some t157)) else (none)) else (none))
theorem tree_sound.mono : ∀ a0 k, LeO (tree_sound.f k a0) (tree_sound.f (k + 1) a0) := by
  intro a0 k
  unfold tree_sound.f
  repeat' first
      | (with_reducible exact tree_Check.mono _ _ _)
      | (with_reducible exact LeO.refl _)
      | (with_reducible exact LeO.none _)
      | (with_reducible refine LeO.ite ?_ ?_)
      | (with_reducible refine LeO.bind ?_ (fun _ => ?_))
      | exact tree_Check.mono _ _ _
      | exact LeO.none _
      | refine LeO.ite ?_ ?_
      | refine LeO.bind ?_ (fun _ => ?_)
def tree_sound.T3 : Bool × List (List Nat × List Nat) := (true, [([], []), ([], []), ([1], [1]), ([], []), ([3], [3]), ([4], [4]), ([5], [5]), ([2, 6], [2, 6]), ([7], [7]), ([8], [8]), ([0, 9], [0, 9]), ([10, 10, 0, 1, 2, 3, 4, 5, 6, 7, 8, 9, 10], [10])])
def tree_sound.B3 : List Nat := [0, 0, 2, 0, 8, 24, 56, 126, 254, 510, 1023, 2047]
theorem tree_sound.tab3 : rtab .any (opsOf Tryd.f56 3) = tree_sound.T3 := by kernel_rfl
theorem tree_sound.bits3 : waitsOk tree_sound.T3.2 tree_sound.B3 = true := by kernel_rfl
set_option maxHeartbeats 8000000 in
set_option maxRecDepth 100000 in
theorem tree_sound.calls (k : Nat) (A0_0 : Option Addr) (c0_0 : Nat) (l0_0 : List (S33)) (r : Option Er) (w : World) (hr0_0 : Kd.C k33 w A0_0 l0_0.length l0_0) (hc0_0 : l0_0.length ≤ c0_0) (h : tree_sound.f k l0_0 = some r) :
    Calls Tryd.prog 56 #[.agg #[.slice A0_0 l0_0.length c0_0]] w fun e w' => e = .returned (errW r) ∧ Below w.heap.size w w' := by
  have hu24 := Tryd.underlying24
  have hu27 := Tryd.underlying27
  have hu82 := Tryd.underlying82
  have HR0_0 := Aside0.mk hr0_0
  have HC0_0 := Aside0.mk hc0_0
  clear hr0_0 hc0_0
  have HB := Aside0.mk (Below.refl w.heap.size w)
  have H : (if (l0_0.length : Int) = 0 then (some (some (Er.no 7))) else (if 0 ≤ (wrap64 ((l0_0.length : Int) - 1)) then (if (wrap64 ((l0_0.length : Int) - 1)) < (l0_0.length : Int) then ((tree_Check.f k l0_0 ((rd_T33 l0_0 (wrap64 ((l0_0.length : Int) - 1))).f2)).bind fun t157 => (some t157)) else (none)) else (none))) = some r := h
  clear h
  by_cases c2 : (l0_0.length : Int) = 0
  · rw [if_pos c2] at H
    have c2b0 : ((l0_0.length : Int) == 0) = true := beq_iff_eq.mpr c2
    have c2b1 : ((l0_0.length : Int) != 0) = false := bne_eq_false_iff_eq.mpr c2
    clear c2
    obtain rfl := Option.some.inj H
    go_enter Tryd.func56, Tryd.ntmps56
    go_wp2_with (first | ((with_reducible refine gate_dst (N := 1) rfl ?_); refine box_event ?hg (N := 1) ?hd (cs := #[.slice A0_0 l0_0.length c0_0]) (t := 24) ?hr ?_; (case hd => rfl); (case hg => rfl); (case hr => first | (go_simp; done) | (go_simp; rfl)); intro gb155 hg w3 hbox hb; have n0_ := Aside0.mk (below_step (by repeat (first | (with_reducible first | exact HB.out | apply below_alloc | apply pw_below_drewN | apply below_drew1) | exact HB.out)) hb); have n1_ := Aside0.mk (hbox); have n2_ := Aside0.mk ((by rw [hg]; exact (below_size (by repeat (first | (with_reducible first | exact HB.out | apply below_alloc | apply pw_below_drewN | apply below_drew1) | exact HB.out))) : w.heap.size ≤ gb155)); have n3_ := Aside0.mk ((by rw [hg]; exact (below_size (by repeat (first | (with_reducible first | exact HB.out | apply below_alloc | apply pw_below_drewN | apply below_drew1) | exact HB.out))) : w.heap.size ≤ gb155)); clear HB; have HB := n0_; have BK155 := n1_; have GW155 := n2_; have GE155 := n3_; clear n0_ n1_ n2_ n3_; clear hb hbox hg; have hcz4_0 : w3.cell? ⟨gb155, 0, none⟩ = some (.slice A0_0 l0_0.length c0_0) := (blk_cell BK155.out 0).trans rfl; have hfz4_0 := blk_frozen BK155.out 0))
    go_ret
    exact ⟨by first | rfl | (simp [errW_none, errW_some, erT_no, erV_no, erT_at, erV_at] <;> rfl) | (simp [*, errW_none, errW_some, erT_no, erV_no, erT_at, erV_at] <;> rfl), by repeat (first | (with_reducible first | exact HB.out | apply below_alloc | apply pw_below_drewN | apply below_drew1 | refine below_set ?_ GE155.out) | exact HB.out)⟩
  · rw [if_neg c2] at H
    have c2b0 : ((l0_0.length : Int) == 0) = false := beq_eq_false_iff_ne.mpr c2
    have c2b1 : ((l0_0.length : Int) != 0) = true := bne_iff_ne.mpr c2
    have c2b2 : ¬ (l0_0 = []) := fun h_ => c2 (by rw [h_]; rfl)
    obtain ⟨ji5, hji5⟩ : ∃ j_ : Int, (wrap64 ((l0_0.length : Int) - 1)) = j_ := ⟨_, rfl⟩
    replace H : (if 0 ≤ (ji5) then (if (ji5) < (l0_0.length : Int) then ((tree_Check.f k l0_0 ((rd_T33 l0_0 (ji5)).f2)).bind fun t157 => (some t157)) else (none)) else (none)) = some r := by first | (rw [hji5] at H; exact H) | (simp only [hji5] at H ⊢; exact H)
    have hji5w : (IntKind.i64.wrap ((l0_0.length : Int) - 1)) = ji5 := (i64_w _).trans hji5
    by_cases c6 : 0 ≤ (ji5)
    · rw [if_pos c6] at H
      have c6b0 : decide (0 ≤ (ji5)) = true := decide_eq_true c6
      clear c6
      by_cases c7 : (ji5) < (l0_0.length : Int)
      · rw [if_pos c7] at H
        have c7b0 : decide ((ji5) < (l0_0.length : Int)) = true := decide_eq_true c7
        clear c7
        replace H := Option.bind_eq_some_iff.mp H
        obtain ⟨t157, A80, H⟩ := H
        replace H : (some t157) = some r := H
        have A8 := Aside0.mk A80
        clear A80
        obtain rfl := Option.some.inj H
        go_enter Tryd.func56, Tryd.ntmps56
        try go_wp2_with (first | ((with_reducible refine gate_dst (N := 1) rfl ?_); refine box_event ?hg (N := 1) ?hd (cs := #[.slice A0_0 l0_0.length c0_0]) (t := 24) ?hr ?_; (case hd => rfl); (case hg => rfl); (case hr => first | (go_simp; done) | (go_simp; rfl)); intro gb155 hg w9 hbox hb; have n0_ := Aside0.mk (below_step (by repeat (first | (with_reducible first | exact HB.out | apply below_alloc | apply pw_below_drewN | apply below_drew1) | exact HB.out)) hb); have n1_ := Aside0.mk (hbox); have n2_ := Aside0.mk ((by rw [hg]; exact (below_size (by repeat (first | (with_reducible first | exact HB.out | apply below_alloc | apply pw_below_drewN | apply below_drew1) | exact HB.out))) : w.heap.size ≤ gb155)); have n3_ := Aside0.mk ((by rw [hg]; exact (below_size (by repeat (first | (with_reducible first | exact HB.out | apply below_alloc | apply pw_below_drewN | apply below_drew1) | exact HB.out))) : w.heap.size ≤ gb155)); clear HB; have HB := n0_; have BK155 := n1_; have GW155 := n2_; have GE155 := n3_; clear n0_ n1_ n2_ n3_; clear hb hbox hg; have hcz10_0 : w9.cell? ⟨gb155, 0, none⟩ = some (.slice A0_0 l0_0.length c0_0) := (blk_cell BK155.out 0).trans rfl; have hfz10_0 := blk_frozen BK155.out 0))
        have n0_ := Aside0.mk (blk_drew BK155.out)
        have n1_ := Aside0.mk (below_drew1 HB.out)
        clear BK155
        clear HB
        have BK155 := n0_
        have HB := n1_
        clear n0_ n1_
        have p156 : 0 ≤ ((ji5) : Int) := of_decide_eq_true (by first | (with_reducible assumption) | assumption)
        have q156 : (ji5) < (l0_0.length : Int) := of_decide_eq_true (by first | (with_reducible assumption) | assumption)
        obtain ⟨ad156, A156_3, c156_3, e156, hx156_0, hx156_1, hx156_2, hx156_3, hl156_3, hi156_3⟩ := at_T33 HR0_0.out (ji5) p156 q156
        have hw156_3 := hx156_3
        have hw156_2 := hx156_2
        have hw156_1 := hx156_1
        have hw156_0 := hx156_0
        cases e156
        replace hx156_0 := (HB.out.cell (World.block_lt_of_cell? w _ hx156_0)).trans hx156_0
        replace hx156_1 := (HB.out.cell (World.block_lt_of_cell? w _ hx156_1)).trans hx156_1
        replace hx156_2 := (HB.out.cell (World.block_lt_of_cell? w _ hx156_2)).trans hx156_2
        replace hx156_3 := (HB.out.cell (World.block_lt_of_cell? w _ hx156_3)).trans hx156_3
        have HR156_3 := Aside0.mk hi156_3
        have HC156_3 := Aside0.mk hl156_3
        clear hi156_3 hl156_3
        replace p156 := eq_true p156
        replace q156 := eq_true q156
        refine start_ (n := 12) (S := fun w' => w'.cell? ⟨gb155, 0, none⟩ = some (.slice (some ad156) l0_0.length c0_0) ∧ w'.cell? (ad156.add (((ji5)).toNat * 4)) = some (.int .i64 ((rd_T33 l0_0 (ji5)).f0)) ∧ w'.cell? ⟨(ad156.add (((ji5)).toNat * 4)).block, (ad156.add (((ji5)).toNat * 4)).off + 1, none⟩ = some (.int .i64 ((rd_T33 l0_0 (ji5)).f1)) ∧ w'.cell? ⟨(ad156.add (((ji5)).toNat * 4)).block, (ad156.add (((ji5)).toNat * 4)).off + 2, none⟩ = some (.int .i64 ((rd_T33 l0_0 (ji5)).f2)) ∧ w'.cell? ⟨(ad156.add (((ji5)).toNat * 4)).block, (ad156.add (((ji5)).toNat * 4)).off + 3, none⟩ = some (.slice A156_3 ((rd_T33 l0_0 (ji5)).f3).length c156_3)) (ds := []) #[false, false, false, false, false, false, false, false, false, false, false, false] (by kernel_rfl) rfl rfl ⟨(blk_cell BK155.out 0).trans rfl, ((HB.out.cell (World.block_lt_of_cell? w _ hw156_0)).trans hw156_0), ((HB.out.cell (World.block_lt_of_cell? w _ hw156_1)).trans hw156_1), ((HB.out.cell (World.block_lt_of_cell? w _ hw156_2)).trans hw156_2), ((HB.out.cell (World.block_lt_of_cell? w _ hw156_3)).trans hw156_3)⟩ (fun hHeld => ?_); refine with_tabW tree_sound.tab3 tree_sound.bits3 (fun HT_ HW_ => ?_)
        generalize w9.drew = w11 at BK155 HB HR156_3 hx156_0 hx156_1 hx156_2 hx156_3 hHeld ⊢
        refine pure_ (i := 1) (N := some 9) (v := ?_) (a' := ?_) #[false, true, false, false, false, false, false, false, false, false, false, false] rfl rfl (any_of HT_.out (by kernel_rfl)) (fun _ _ _ h => h) (Or.inl ⟨by rfl, ?_⟩) ?_ ?_
        rotate_left
        · intro w'
          go_simp
          with_reducible rfl
        rotate_left
        · simp only [Act.put, List.setIfInBounds_toArray, List.set_cons_zero, List.set_cons_succ, i64_w, i32_w]
          rfl
        refine pure_ (i := 3) (N := some 11) (v := ?_) (a' := ?_) #[false, true, false, true, false, false, false, false, false, false, false, false] rfl rfl (any_of HT_.out (by kernel_rfl)) (fun _ _ _ h => h) (Or.inl ⟨by rfl, ?_⟩) ?_ ?_
        rotate_left
        · intro w'
          go_simp
          with_reducible rfl
        rotate_left
        · simp only [Act.put, List.setIfInBounds_toArray, List.set_cons_zero, List.set_cons_succ, i64_w, i32_w]
          rfl
        refine take_ (i := 0) (N := some 8) (v := ?_) (a' := ?_) #[true, true, false, true, false, false, false, false, false, false, false, false] rfl rfl (take_ofW HT_.out HW_.out (by kernel_rfl)) (fun _ _ _ h => h) (Or.inl ⟨by rfl, ?_⟩) hHeld ?_ ?_
        rotate_left
        · rintro w' ⟨s0, s1, s2, s3, s4⟩
          go_simp
          with_reducible rfl
        rotate_left
        · simp only [Act.put, List.setIfInBounds_toArray, List.set_cons_zero, List.set_cons_succ, i64_w, i32_w]
          rfl
        refine take_ (i := 2) (N := some 10) (v := ?_) (a' := ?_) #[true, true, true, true, false, false, false, false, false, false, false, false] rfl rfl (take_ofW HT_.out HW_.out (by kernel_rfl)) (fun _ _ _ h => h) (Or.inl ⟨by rfl, ?_⟩) hHeld ?_ ?_
        rotate_left
        · rintro w' ⟨s0, s1, s2, s3, s4⟩
          go_simp
          with_reducible rfl
        rotate_left
        · simp only [Act.put, List.setIfInBounds_toArray, List.set_cons_zero, List.set_cons_succ, i64_w, i32_w]
          rfl
        refine take_ (i := 4) (N := some 12) (v := ?_) (a' := ?_) #[true, true, true, true, true, false, false, false, false, false, false, false] rfl rfl (take_ofW HT_.out HW_.out (by kernel_rfl)) (fun _ _ _ h => h) (Or.inl ⟨by rfl, ?_⟩) hHeld ?_ ?_
        rotate_left
        · rintro w' ⟨s0, s1, s2, s3, s4⟩
          go_simp
          with_reducible rfl
        rotate_left
        · simp only [Act.put, List.setIfInBounds_toArray, List.set_cons_zero, List.set_cons_succ, i64_w, i32_w]
          rfl
        refine pure_ (i := 5) (N := some 13) (v := ?_) (a' := ?_) #[true, true, true, true, true, true, false, false, false, false, false, false] rfl rfl (any_of HT_.out (by kernel_rfl)) (fun _ _ _ h => h) (Or.inl ⟨by rfl, ?_⟩) ?_ ?_
        rotate_left
        · intro w'
          go_simp
          with_reducible rfl
        rotate_left
        · simp only [Act.put, List.setIfInBounds_toArray, List.set_cons_zero, List.set_cons_succ, i64_w, i32_w]
          rfl
        refine pure_ (i := 6) (N := some 14) (v := ?_) (a' := ?_) #[true, true, true, true, true, true, true, false, false, false, false, false] rfl rfl (any_of HT_.out (by kernel_rfl)) (fun _ _ _ h => h) (Or.inl ⟨by rfl, ?_⟩) ?_ ?_
        rotate_left
        · intro w'
          go_simp
          with_reducible rfl
        rotate_left
        · simp only [Act.put, List.setIfInBounds_toArray, List.set_cons_zero, List.set_cons_succ, i64_w, i32_w]
          rfl
        refine pure_ (i := 7) (N := some 15) (v := ?_) (a' := ?_) #[true, true, true, true, true, true, true, true, false, false, false, false] rfl rfl (any_of HT_.out (by kernel_rfl)) (fun _ _ _ h => h) (Or.inl ⟨by rfl, ?_⟩) ?_ ?_
        rotate_left
        · intro w'
          go_simp
          with_reducible rfl
        rotate_left
        · simp only [Act.put, List.setIfInBounds_toArray, List.set_cons_zero, List.set_cons_succ, i64_w, i32_w]
          rfl
        refine pure_ (i := 8) (N := some 16) (v := ?_) (a' := ?_) #[true, true, true, true, true, true, true, true, true, false, false, false] rfl rfl (any_of HT_.out (by kernel_rfl)) (fun _ _ _ h => h) (Or.inl ⟨by rfl, ?_⟩) ?_ ?_
        rotate_left
        · intro w'
          go_simp
          with_reducible rfl
        rotate_left
        · simp only [Act.put, List.setIfInBounds_toArray, List.set_cons_zero, List.set_cons_succ, i64_w, i32_w]
          rfl
        refine take_ (i := 9) (N := some 17) (v := ?_) (a' := ?_) #[true, true, true, true, true, true, true, true, true, true, false, false] rfl rfl (take_ofW HT_.out HW_.out (by kernel_rfl)) (fun _ _ _ h => h) (Or.inl ⟨by rfl, ?_⟩) hHeld ?_ ?_
        rotate_left
        · rintro w' ⟨s0, s1, s2, s3, s4⟩
          go_simp
          with_reducible rfl
        rotate_left
        · simp only [Act.put, List.setIfInBounds_toArray, List.set_cons_zero, List.set_cons_succ, i64_w, i32_w]
          rfl
        refine one_ (i := 10) (N := some 18) #[true, true, true, true, true, true, true, true, true, true, true, false] rfl rfl (one_of HT_.out (by kernel_rfl)) (by decide) (fun K hK => ?_)
        refine goes_ Tryd.func11 (by kernel_rfl) rfl #[.agg #[.slice (some ad156) l0_0.length c0_0], .int .i64 ((rd_T33 l0_0 (ji5)).f2)] (by rfl) rfl rfl (by (try simp only [List.map_toArray, List.map_cons, List.map_nil]); first | done | (simp only [hji5]; rfl) | rfl | (simp only [List.length_drop, List.length_take]; rfl)) ?_
        with_reducible refine (tree_Check.calls k _ _ l0_0 ((rd_T33 l0_0 (ji5)).f2) t157 _ ?side1 ?side2 A8.out).mono ?_
        (case side1 => repeat (first | exact (Kd.C_below HR0_0.out HB.out) | (with_reducible refine Kd.C_alloc ?_ _) | (with_reducible refine Kd.C_drewN ?_ _) | (with_reducible refine Kd.C_drew ?_)))
        (case side2 => exact HC0_0.out)
        rintro e w12 ⟨rfl, hb⟩
        refine ⟨_, rfl, ?_⟩
        have n0_ := Aside0.mk (blk_below (g := gb155) (o := .cells #[.slice (some ad156) l0_0.length c0_0] 24 (0, 0)) (by (with_reducible repeat (first | refine blk_drewN ?_ _ | refine blk_drew ?_ | refine blk_alloc ?_ _)); exact BK155.out) hb)
        have n1_ := Aside0.mk (below_step (by repeat (first | (with_reducible first | exact HB.out | apply below_alloc | apply pw_below_drewN | apply below_drew1 | refine below_set ?_ GE155.out) | exact HB.out)) hb)
        clear BK155
        clear HB
        have BK155 := n0_
        have HB := n1_
        clear n0_ n1_
        (try clear hb)
        (try clear hb2)
        (try clear hk)
        (try clear hi)
        (try simp only [errW_none, errW_some, erT_no, erV_no, erT_at, erV_at])
        refine hK.out _ _ ⟨(blk_cell BK155.out 0).trans rfl, ((HB.out.cell (World.block_lt_of_cell? w _ hw156_0)).trans hw156_0), ((HB.out.cell (World.block_lt_of_cell? w _ hw156_1)).trans hw156_1), ((HB.out.cell (World.block_lt_of_cell? w _ hw156_2)).trans hw156_2), ((HB.out.cell (World.block_lt_of_cell? w _ hw156_3)).trans hw156_3)⟩ (fun hHeld => ?_)
        clear hK K
        refine norm_ (a' := ?_) ?_ ?_
        rotate_left
        · show Act.put _ (some 18) _ = _
          simp only [Act.put, List.setIfInBounds_toArray, List.set_cons_zero, List.set_cons_succ, i64_w, i32_w]
          rfl
        refine pure_ (i := 11) (N := some 2) (v := ?_) (a' := ?_) #[true, true, true, true, true, true, true, true, true, true, true, true] rfl rfl (any_of HT_.out (by kernel_rfl)) (fun _ _ _ h => h) (Or.inl ⟨by rfl, ?_⟩) ?_ ?_
        rotate_left
        · intro w'
          go_simp
          with_reducible rfl
        rotate_left
        · simp only [Act.put, List.setIfInBounds_toArray, List.set_cons_zero, List.set_cons_succ, i64_w, i32_w]
          rfl
        refine done_ (done_of HT_.out (by kernel_rfl)) ?_
        try go_wp2
        go_ret
        exact ⟨by first | rfl | (simp [errW_none, errW_some, erT_no, erV_no, erT_at, erV_at] <;> rfl) | (simp only [← hji5]; first | rfl | (simp [errW_none, errW_some, erT_no, erV_no, erT_at, erV_at] <;> rfl)) | (simp [*, errW_none, errW_some, erT_no, erV_no, erT_at, erV_at] <;> rfl), by repeat (first | (with_reducible first | exact HB.out | apply below_alloc | apply pw_below_drewN | apply below_drew1 | refine below_set ?_ GE155.out) | exact HB.out)⟩
      · rw [if_neg c7] at H
        exact absurd H (by simp)
    · rw [if_neg c6] at H
      exact absurd H (by simp)

/-! ### tree_parts: function 57 -/
section
variable {σ : Type}
/-- d tokens from one on. -/
def tree_parts.upto (tok : σ → Int → Option σ) : Nat → σ → Int → Option σ
  | 0, s, _ => some s
  | d + 1, s, a => if -4611686018427387904 ≤ a ∧ a ≤ 4611686018427387904 then (tok s a).bind fun s' => tree_parts.upto tok d s' (a + 1) else none
/-- Blocks that stand, none of which is a row of bytes. -/
def tree_parts.Stand (N : Nat → Prop) (W : World) : Prop := ∀ k, N k → ∃ (c : Array Value) (t : TypeId), W.heap[k]? = some (.cells c t (0, 0)) ∧ t ≠ 5
/-- What a closure must do that goes over tokens, or children: it takes the state on, and leaves certain blocks as they are. -/
def tree_parts.Step (J : σ → World → Prop) (tok : σ → Int → Option σ) (B : Nat) (N : Nat → Prop) (tf : FuncId) (tc : Array Value) (w0 : World) : Prop :=
  (∀ args w, (callFunc tf args).run Tryd.prog w = .ok (.enter tf args) w) ∧ ∀ s i s' W, tree_parts.Stand N W → tok s i = some s' → J s W → Below B w0 W → Calls Tryd.prog tf (#[.int .i64 i] ++ tc) W fun e W' => e = .returned (.tuple #[]) ∧ J s' W' ∧ Below B w0 W' ∧ (∀ k, N k → W'.heap[k]? = W.heap[k]?)
theorem tree_parts.stand_of {N : Nat → Prop} {W W' : World} {ga : Nat} {v : Value} (h : tree_parts.Stand N W) (hk : ∀ k, N k → k ≠ ga → W'.heap[k]? = W.heap[k]?) (ha : W'.heap[ga]? = some (.cells #[v] 3 (0, 0))) : tree_parts.Stand N W' := by
  intro k hN
  by_cases e : k = ga
  · subst e
    exact ⟨_, 3, ha, by decide⟩
  · obtain ⟨c, t, h1, h2⟩ := h k hN
    exact ⟨c, t, (hk k hN e).trans h1, h2⟩
set_option maxHeartbeats 4000000 in
set_option maxRecDepth 100000 in
theorem tree_parts.upto_calls {J : σ → World → Prop} {tok : σ → Int → Option σ} {B : Nat} {N : Nat → Prop} {tf : FuncId} {tc : Array Value} {w0 : World}
    (hset : ∀ s W k j v, N k → J s W → J s (W.setCell ⟨k, j, none⟩ v)) (htok : tree_parts.Step J tok B N tf tc w0)
    (ga gt : Nat) (hB : B ≤ ga) (hna : N ga) (hnt : N gt) (hne : gt ≠ ga) (d : Nat) (s : σ) (a en : Int) (s' : σ) (W : World) (h : tree_parts.upto tok d s a = some s') (hd : d = (en - a).toNat)
    (hga : W.heap[ga]? = some (.cells #[.int .i64 a] 3 (0, 0))) (hgt : W.heap[gt]? = some (.cells #[.func (.func tf) #[] tc] 92 (0, 0))) (hsz : tree_parts.Stand N W) (hJ : J s W) (hw : Below B w0 W) (m : Int) (hm : m = (if a < en then en else a)) :
    Calls Tryd.prog 83 #[.int .i64 en, .pointer (some ⟨ga, 0, none⟩), .pointer (some ⟨gt, 0, none⟩)] W fun e W' => e = .returned (.tuple #[]) ∧ J s' W' ∧ Below B w0 W' ∧ W'.heap[ga]? = some (.cells #[.int .i64 m] 3 (0, 0)) ∧ (∀ k, N k → k ≠ ga → W'.heap[k]? = W.heap[k]?) ∧ tree_parts.Stand N W' := by
  have he := htok.1
  have HT := Aside0.mk htok.2
  have HS := Aside0.mk hset
  have HA := Aside0.mk hga
  have HG := Aside0.mk hgt
  have HZ := Aside0.mk hsz
  have HJ := Aside0.mk hJ
  have HW := Aside0.mk hw
  have HU := Aside0.mk h
  have HD := Aside0.mk hd
  have HM0 := Aside0.mk hm
  have NA := Aside0.mk hna
  have NT := Aside0.mk hnt
  clear htok hset hga hgt hsz hJ hw h hd hm hna hnt
  go_enter Tryd.func83, Tryd.ntmps83
  go_wp2
  go_loopg [] d (fun dq w' => ∃ (s1 : σ) (a1 : Int), Aside0 (tree_parts.upto tok dq s1 a1 = some s') ∧ Aside0 (dq = (en - a1).toNat) ∧ Aside0 (m = (if a1 < en then en else a1)) ∧ Aside0 (w'.heap[ga]? = some (.cells #[.int .i64 a1] 3 (0, 0))) ∧ Aside0 (∀ k, N k → k ≠ ga → w'.heap[k]? = W.heap[k]?) ∧ Aside0 (tree_parts.Stand N w') ∧ Aside0 (J s1 w') ∧ Aside0 (Below B w0 w'))
  case atStart => exact ⟨s, a, HU, HD, HM0, HA, ⟨fun _ _ _ => rfl⟩, HZ, HJ, HW⟩
  case round =>
    clear HA HZ HJ HW HU HD HM0
    obtain ⟨s1, a1, HU, HD, HM, HA, HK, HZ, HJ, HW⟩ := hrel
    have qa := blk_cell HA.out 0
    have qt := blk_cell ((HK.out gt NT.out hne).trans HG.out) 0
    simp only [List.getElem?_toArray, List.getElem?_cons_zero] at qa qt
    by_cases c : a1 < en
    · have c0 : decide (a1 < en) = true := decide_eq_true c
      have C := Aside0.mk c
      clear c
      obtain ⟨k1, hk1⟩ : ∃ k1, gk = k1 + 1 := ⟨gk - 1, by have := HD.out; have := C.out; omega⟩
      subst hk1
      have hu := HU.out
      simp only [tree_parts.upto] at hu
      by_cases cb : -4611686018427387904 ≤ a1 ∧ a1 ≤ 4611686018427387904
      case neg => rw [if_neg cb] at hu; cases hu
      rw [if_pos cb] at hu
      obtain ⟨s2, hs2, hu2⟩ := Option.bind_eq_some_iff.mp hu
      have CB := Aside0.mk cb
      have HS2 := Aside0.mk hs2
      have HU2 := Aside0.mk hu2
      clear cb hs2 hu2 hu HU
      go_wp2_with (first | ((with_reducible refine (HT.out s1 a1 s2 wr HZ.out HS2.out HJ.out HW.out).mono ?_); rintro e w3 ⟨rfl, hj3, hb3, hk3⟩; have ha3 := (hk3 ga NA.out).trans HA.out; have q3 := blk_cell ha3 0; have f3 := blk_frozen ha3 0; simp only [List.getElem?_toArray, List.getElem?_cons_zero] at q3; have HA3 := Aside0.mk ha3; have HJ3 := Aside0.mk hj3; have HB3 := Aside0.mk hb3; have HK3 := Aside0.mk hk3; clear ha3 hj3 hb3 hk3))
      have ew : wrap64 (a1 + 1) = a1 + 1 := by have := CB.out; unfold wrap64; omega
      have kept : ∀ k, N k → k ≠ ga → (w3.setCell ⟨ga, 0, none⟩ (.int .i64 (wrap64 (a1 + 1)))).heap[k]? = W.heap[k]? := fun k h0 h2 => (Below.heap_setCell w3 ⟨ga, 0, none⟩ _ k h2).trans ((HK3.out k h0).trans (HK.out k h0 h2))
      have kept2 : ∀ k, N k → k ≠ ga → (w3.setCell ⟨ga, 0, none⟩ (.int .i64 (wrap64 (a1 + 1)))).heap[k]? = wr.heap[k]? := fun k h0 h2 => (Below.heap_setCell w3 ⟨ga, 0, none⟩ _ k h2).trans (HK3.out k h0)
      go_roundg k1
      case measure => omega
      case rel =>
        refine ⟨s2, wrap64 (a1 + 1), ⟨by rw [ew]; exact HU2.out⟩, ⟨by rw [ew]; have := HD.out; have := C.out; omega⟩, ⟨?_⟩, ⟨blk_put HA3.out 0 _ rfl⟩, ⟨kept⟩, ⟨tree_parts.stand_of HZ.out kept2 (blk_put HA3.out 0 _ rfl)⟩, ⟨HS.out s2 w3 ga 0 _ NA.out HJ3.out⟩, ⟨HB3.out.setCell (p := ⟨ga, 0, none⟩) hB _⟩⟩
        rw [ew, HM.out, if_pos C.out]
        have := C.out
        by_cases c1 : a1 + 1 < en
        · rw [if_pos c1]
        · rw [if_neg c1]; omega
    · have c0 : decide (a1 < en) = false := decide_eq_false c
      have C := Aside0.mk c
      clear c
      go_wp2
      refine bodyPost_end (results_none rfl _ _ _) rfl ?_
      have hk0 : gk = 0 := by have := HD.out; have := C.out; omega
      subst hk0
      have e1 : s1 = s' := Option.some.inj HU.out
      subst e1
      have e2 : m = a1 := by rw [HM.out, if_neg (Int.not_lt.2 C.out)]
      subst e2
      exact ⟨rfl, HJ.out, HW.out, HA.out, HK.out, HZ.out⟩
/-- The children from one on, and the tokens between and behind them. -/
def tree_parts.run (tok kid : σ → Int → Option σ) (l : List S33) : List Int → Int → Int → σ → Option σ
  | [], at_, f2, s => tree_parts.upto tok (f2 - at_).toNat s at_
  | k :: ks, at_, f2, s => if 0 ≤ k then if k < l.length then (tree_parts.upto tok ((rd_T33 l k).f1 - at_).toNat s at_).bind fun s1 => (kid s1 k).bind fun s2 => tree_parts.run tok kid l ks (rd_T33 l k).f2 f2 s2 else none else none
set_option maxHeartbeats 8000000 in
set_option maxRecDepth 100000 in
theorem tree_parts.calls {J : (Nat → Prop) → σ → World → Prop} {tok kid : σ → Int → Option σ} {n0 : Nat} {kf tf : FuncId} {kc tc : Array Value} {w0 w : World}
    (hn : n0 = w.heap.size) (hw : Below w0.heap.size w0 w) (hbelow : ∀ N s W W', J N s W → Below W.heap.size W W' → J N s W')
    (hset : ∀ N s W k j v, (∀ q, N q → n0 ≤ q) → N k → J N s W → J N s (W.setCell ⟨k, j, none⟩ v))
    (htok : ∀ N, (∀ q, N q → n0 ≤ q) → tree_parts.Step (J N) tok w0.heap.size N tf tc w0) (hkid : ∀ N, (∀ q, N q → n0 ≤ q) → tree_parts.Step (J N) kid w0.heap.size N kf kc w0)
    (A : Option Addr) (c : Nat) (l : List S33) (f0 f1 f2 : Int) (Ak : Option Addr) (ck : Nat) (ks : List Int) (s s' : σ)
    (hr : Kd.C k33 w0 A l.length l) (hk : Kd.C (Kd.int .i64) w0 Ak ks.length ks) (h : tree_parts.run tok kid l ks f1 f2 s = some s') (hJ : ∀ N, (∀ q, N q → n0 ≤ q) → J N s w) :
    Calls Tryd.prog 57 #[.agg #[.slice A l.length c], .agg #[.int .i64 f0, .int .i64 f1, .int .i64 f2, .slice Ak ks.length ck], .func (.func kf) #[] kc, .func (.func tf) #[] tc] w fun e W' => e = .returned (.tuple #[]) ∧ (∃ N, (∀ q, N q → n0 ≤ q) ∧ J N s' W') ∧ Below w0.heap.size w0 W' := by
  have hkl : ks.length ≤ 9223372036854775807 := (show ReadsRow _ _ _ _ _ _ from hk).2.1
  have HH := Aside0.mk h
  have HJ := Aside0.mk hJ
  have HW := Aside0.mk hw
  have HBL := Aside0.mk hbelow
  have HST := Aside0.mk hset
  have HT := Aside0.mk htok
  have HK := Aside0.mk hkid
  have HN := Aside0.mk hn
  clear h hJ hw hbelow hset htok hkid hn
  go_enter Tryd.func57, Tryd.ntmps57
  go_wp2_with (first
    | ((with_reducible refine gate_dst (N := 4) rfl ?_); refine box_event ?hg (N := 4) ?hd (cs := #[.slice A l.length c]) (t := 24) ?hr ?_; (case hd => rfl); (case hg => rfl); (case hr => first | (go_simp; done) | (go_simp; rfl)); intro g0 eg0 w1 hx0 hb0; have sg0 := Nat.le_of_eq eg0.symm; clear eg0)
    | ((with_reducible refine gate_dst (N := 5) rfl ?_); refine box_event ?hg (N := 5) ?hd (cs := #[.int .i64 f0, .int .i64 f1, .int .i64 f2, .slice Ak ks.length ck]) (t := 33) ?hr ?_; (case hd => rfl); (case hg => rfl); (case hr => first | (go_simp; done) | (go_simp; rfl)); intro g1 eg1 w2 hx1 hb1; have sg1 := Nat.le_of_eq eg1.symm; clear eg1)
    | ((with_reducible refine gate_dst (N := 7) rfl ?_); refine box_event ?hg (N := 7) ?hd (cs := #[.func (.func tf) #[] tc]) (t := 92) ?hr ?_; (case hd => rfl); (case hg => rfl); (case hr => first | (go_simp; done) | (go_simp; rfl)); intro g2 eg2 w3 hx2 hb2; have sg2 := Nat.le_of_eq eg2.symm; clear eg2; have hx1' := blk_below hx1 hb2; have q11 := blk_cell hx1' 1; have q13 := blk_cell hx1' 3; simp only [List.getElem?_toArray, List.getElem?_cons_zero, List.getElem?_cons_succ] at q11 q13)
    | ((with_reducible refine gate_dst (N := 8) rfl ?_); refine box_event ?hg (N := 8) ?hd (cs := #[.int .i64 0]) (t := 3) ?hr ?_; (case hd => rfl); (case hg => rfl); (case hr => first | (go_simp; done) | (go_simp; rfl)); intro g3 eg3 w4 hx3 hb3; have sg3 := Nat.le_of_eq eg3.symm; clear eg3; have q3 := blk_cell hx3 0; have q3z := blk_frozen hx3 0; have hx1'' := blk_below hx1' hb3; have l1 := blk_lt hx1'; have n13 : g1 ≠ g3 := by { omega }; have hx1s := fun u => blk_far hx1'' (p := ⟨g3, 0, none⟩) n13 u; have q13s := fun u => blk_cell (hx1s u) 3; simp only [List.getElem?_toArray, List.getElem?_cons_zero, List.getElem?_cons_succ] at q3 q13s))
  have z0 : g0 < g1 := by have := blk_lt hx0; omega
  have z1 : g1 < g2 := by have := blk_lt hx1; omega
  have z2 : g2 < g3 := by have := blk_lt hx2; omega
  have hn1 : n0 ≤ g0 := by have := HN.out; omega
  have b4 : Below w0.heap.size w0 w4 := by
    have h0 := HW.out
    have h1 := h0.trans (hb0.mono h0.size)
    have h2 := h1.trans (hb1.mono h1.size)
    have h3 := h2.trans (hb2.mono h2.size)
    exact h3.trans (hb3.mono h3.size)
  have hwz : w0.heap.size ≤ n0 := by have := HW.out.size; have := HN.out; omega
  have hg2x : w4.heap[g2]? = some (.cells #[.func (.func tf) #[] tc] 92 (0, 0)) := blk_below hx2 hb3
  have hg1x : w4.heap[g1]? = some (.cells #[.int .i64 f0, .int .i64 f1, .int .i64 f2, .slice Ak ks.length ck] 33 (0, 0)) := hx1''
  have hg0x : w4.heap[g0]? = some (.cells #[.slice A l.length c] 24 (0, 0)) := blk_below (blk_below (blk_below hx0 hb1) hb2) hb3
  obtain ⟨N, hN⟩ : ∃ N : Nat → Prop, N = fun k => k = g0 ∨ k = g1 ∨ k = g2 ∨ k = g3 := ⟨_, rfl⟩
  have hNn : ∀ q, N q → n0 ≤ q := by intro q hq; rw [hN] at hq; omega
  have N0 := Aside0.mk (show N g0 by rw [hN]; exact .inl rfl)
  have N1 := Aside0.mk (show N g1 by rw [hN]; exact .inr (.inl rfl))
  have N2 := Aside0.mk (show N g2 by rw [hN]; exact .inr (.inr (.inl rfl)))
  have N3 := Aside0.mk (show N g3 by rw [hN]; exact .inr (.inr (.inr rfl)))
  have hj4 : J N s w4 := by
    have h0 := HBL.out _ _ _ _ (HJ.out N hNn) hb0
    have h1 := HBL.out _ _ _ _ h0 hb1
    have h2 := HBL.out _ _ _ _ h1 hb2
    exact HBL.out _ _ _ _ h2 hb3
  have hz4 : tree_parts.Stand N w4 := by
    intro k hk'
    rw [hN] at hk'
    rcases hk' with rfl | rfl | rfl | rfl
    · exact ⟨_, _, hg0x, by decide⟩
    · exact ⟨_, _, hg1x, by decide⟩
    · exact ⟨_, _, hg2x, by decide⟩
    · exact ⟨_, _, hx3, by decide⟩
  have Z := Aside0.mk (⟨hn1, z0, z1, z2, hwz⟩ : n0 ≤ g0 ∧ g0 < g1 ∧ g1 < g2 ∧ g2 < g3 ∧ w0.heap.size ≤ n0)
  have NN := Aside0.mk hNn
  have X0 := Aside0.mk hg0x
  have X1 := Aside0.mk hg1x
  have X2 := Aside0.mk hg2x
  have X3 := Aside0.mk hx3
  have J4 := Aside0.mk hj4
  have B4 := Aside0.mk b4
  have Z4 := Aside0.mk hz4
  have HR := Aside0.mk hr
  have HKS := Aside0.mk hk
  have HKL := Aside0.mk hkl
  clear hx0 hb0 sg0 hx1 hb1 sg1 hx2 hb2 sg2 hx1' q11 q13 hx3 hb3 sg3 q3 q3z hx1'' l1 n13 hx1s q13s z0 z1 z2 hn1 b4 hwz hg2x hg1x hg0x hj4 hz4 HJ HBL HW HN hr hk hkl hNn hN
  go_loopg [18] ks.length (fun kq v18 w' => ∃ (i : Nat) (s1 : σ) (a1 : Int), v18 = .int .i64 (i : Int) ∧ Aside0 (i + kq = ks.length) ∧ Aside0 (tree_parts.run tok kid l (ks.drop i) a1 f2 s1 = some s') ∧ Aside0 (w'.heap[g3]? = some (.cells #[.int .i64 a1] 3 (0, 0))) ∧ Aside0 (∀ k, N k → k ≠ g3 → w'.heap[k]? = w4.heap[k]?) ∧ Aside0 (tree_parts.Stand N w') ∧ Aside0 (J N s1 w') ∧ Aside0 (Below w0.heap.size w0 w'))
  case atStart =>
    have kept : ∀ k, N k → k ≠ g3 → (w4.setCell ⟨g3, 0, none⟩ (.int .i64 f1)).heap[k]? = w4.heap[k]? := fun k h0 h2 => Below.heap_setCell w4 ⟨g3, 0, none⟩ _ k h2
    exact ⟨0, s, f1, rfl, ⟨by omega⟩, HH, ⟨blk_put X3.out 0 _ rfl⟩, ⟨kept⟩, ⟨tree_parts.stand_of Z4.out kept (blk_put X3.out 0 _ rfl)⟩, ⟨HST.out N s w4 g3 0 _ NN.out N3.out J4.out⟩, ⟨B4.out.setCell (p := ⟨g3, 0, none⟩) (by have := Z.out; show _ ≤ g3; omega) _⟩⟩
  case round =>
    clear HH J4 B4 Z4
    obtain ⟨i, s1, a1, rfl, HI, HU, HA, HF, HZ, HJ, HW⟩ := hrel
    have hZ := Z.out
    have hek := (HK.out N NN.out).1
    have HKC := Aside0.mk (HK.out N NN.out).2
    have q0 := blk_cell ((HF.out g0 N0.out (by omega)).trans X0.out) 0
    have q12 := blk_cell ((HF.out g1 N1.out (by omega)).trans X1.out) 2
    have hp2 := (HF.out g2 N2.out (by omega)).trans X2.out
    simp only [List.getElem?_toArray, List.getElem?_cons_zero, List.getElem?_cons_succ] at q0 q12
    have HP2 := Aside0.mk hp2
    clear hp2 hZ
    by_cases c0 : i < ks.length
    · have c1 : (i : Int) < (ks.length : Int) := by omega
      have c2 : decide ((i : Int) < (ks.length : Int)) = true := decide_eq_true c1
      have hu := HU.out
      rw [List.drop_eq_getElem_cons c0] at hu
      obtain ⟨kk, hkk⟩ : ∃ kk, kk = ks[i] := ⟨_, rfl⟩
      rw [← hkk] at hu
      simp only [tree_parts.run] at hu
      by_cases d0 : 0 ≤ kk
      case neg => rw [if_neg d0] at hu; cases hu
      rw [if_pos d0] at hu
      by_cases d1 : kk < (l.length : Int)
      case neg => rw [if_neg d1] at hu; cases hu
      rw [if_pos d1] at hu
      obtain ⟨s2, hs2, hu⟩ := Option.bind_eq_some_iff.mp hu
      obtain ⟨s3, hs3, hu⟩ := Option.bind_eq_some_iff.mp hu
      have S2 := Aside0.mk hs2
      have S3 := Aside0.mk hs3
      have U2 := Aside0.mk hu
      clear hs2 hs3 hu HU
      obtain ⟨ad1, cc, eA1, _, hK1, hc1⟩ := Kd.C_get HKS.out (0 : Int) (i : Int) (by omega) c1
      have hK1' : cc = [.int .i64 (ks.getD (i : Int).toNat 0)] := hK1
      subst hK1'
      have hc1' : w0.cell? (ad1.add i) = some (.int .i64 kk) := by
        have := hc1 0 _ rfl
        rw [Int.toNat_natCast, show i * (Kd.int IntKind.i64).sz + 0 = i by show i * 1 + 0 = i; omega, List.getD_eq_getElem?_getD, List.getElem?_eq_getElem c0] at this
        rw [this, hkk]
        rfl
      have K1 := (HW.out.cell (World.block_lt_of_cell? w0 _ hc1')).trans hc1'
      obtain ⟨ad2, A3, c3, eA2, _, hx1, hx2, _, _, _⟩ := at_T33 HR.out kk d0 d1
      have M1 := fun (W : World) (hb : Below w0.heap.size w0 W) => (hb.cell (World.block_lt_of_cell? w0 _ hx1)).trans hx1
      have M2 := fun (W : World) (hb : Below w0.heap.size w0 W) => (hb.cell (World.block_lt_of_cell? w0 _ hx2)).trans hx2
      have M1r := M1 wr HW.out
      have MM := Aside0.mk M2
      have D0 : (0 ≤ kk) = True := eq_true d0
      have D1 : (kk < (l.length : Int)) = True := eq_true d1
      subst eA1 eA2
      clear hK1 hc1 hc1' hx1 hx2 M1 M2 hkk d0 d1
      go_wp2_with (first
        | (go_at_call 83; (with_reducible refine (tree_parts.upto_calls (J := J N) (fun s W k j v h h' => HST.out N s W k j v NN.out h h') (HT.out N NN.out) g3 g2 (by have := Z.out; omega) N3.out N2.out (by have := Z.out; omega) _ s1 a1 _ s2 _ S2.out rfl HA.out HP2.out HZ.out HJ.out HW.out _ rfl).mono ?_); rintro e w5 ⟨rfl, hj5, hb5, hg5, hk5, hz5⟩; have J5 := Aside0.mk hj5; have B5 := Aside0.mk hb5; have G5 := Aside0.mk hg5; have F5 := Aside0.mk hk5; have Z5 := Aside0.mk hz5; clear hj5 hb5 hg5 hk5 hz5)
        | ((with_reducible refine (HKC.out s2 kk s3 _ Z5.out S3.out J5.out B5.out).mono ?_); rintro e w6 ⟨rfl, hj6, hb6, hk6⟩; have hf6 : ∀ k, N k → k ≠ g3 → w6.heap[k]? = w4.heap[k]? := fun k h0 h2 => (hk6 k h0).trans ((F5.out k h0 h2).trans (HF.out k h0 h2)); have hg6 := (hk6 g3 N3.out).trans G5.out; have q0' := blk_cell ((hf6 g0 N0.out (by have := Z.out; omega)).trans X0.out) 0; have q3' := blk_cell hg6 0; have z3' := blk_frozen hg6 0; have n2' := MM.out w6 hb6; simp only [List.getElem?_toArray, List.getElem?_cons_zero, List.getElem?_cons_succ] at q0' q3'; have J6 := Aside0.mk hj6; have B6 := Aside0.mk hb6; have G6 := Aside0.mk hg6; have F6 := Aside0.mk hf6; have K6 := Aside0.mk hk6; clear hj6 hb6 hk6 hf6 hg6))
      have ew : wrap64 ((i : Int) + 1) = ((i + 1 : Nat) : Int) := by have := HKL.out; unfold wrap64; omega
      have kept : ∀ u k, N k → k ≠ g3 → (w6.setCell ⟨g3, 0, none⟩ u).heap[k]? = w4.heap[k]? := fun u k h0 h2 => (Below.heap_setCell w6 ⟨g3, 0, none⟩ _ k h2).trans (F6.out k h0 h2)
      have kept2 : ∀ u k, N k → k ≠ g3 → (w6.setCell ⟨g3, 0, none⟩ u).heap[k]? = wr.heap[k]? := fun u k h0 h2 => (Below.heap_setCell w6 ⟨g3, 0, none⟩ _ k h2).trans ((K6.out k h0).trans (F5.out k h0 h2))
      have KP := Aside0.mk kept
      have KP2 := Aside0.mk kept2
      clear kept kept2
      go_roundg (ks.length - (i + 1))
      case measure => have := HI.out; omega
      case rel =>
        exact ⟨i + 1, s3, _, by rw [ew], ⟨by omega⟩, U2, ⟨blk_put G6.out 0 _ rfl⟩, ⟨KP.out _⟩, ⟨tree_parts.stand_of HZ.out (KP2.out _) (blk_put G6.out 0 _ rfl)⟩, ⟨HST.out N s3 w6 g3 0 _ NN.out N3.out J6.out⟩, ⟨B6.out.setCell (p := ⟨g3, 0, none⟩) (by have := Z.out; show _ ≤ g3; omega) _⟩⟩
    · have c1 : ¬ (i : Int) < (ks.length : Int) := by omega
      have c2 : decide ((i : Int) < (ks.length : Int)) = false := decide_eq_false c1
      have hi0 : i = ks.length := by have := HI.out; omega
      have hu := HU.out
      rw [hi0, List.drop_length] at hu
      simp only [tree_parts.run] at hu
      have U2 := Aside0.mk hu
      clear hu HU
      go_wp2_with (first
        | (go_at_call 83; (with_reducible refine (tree_parts.upto_calls (J := J N) (fun s W k j v h h' => HST.out N s W k j v NN.out h h') (HT.out N NN.out) g3 g2 (by have := Z.out; omega) N3.out N2.out (by have := Z.out; omega) _ s1 a1 _ s' _ U2.out rfl HA.out HP2.out HZ.out HJ.out HW.out _ rfl).mono ?_); rintro e w5 ⟨rfl, hj5, hb5, hg5, hk5, hz5⟩; have J5 := Aside0.mk hj5; have B5 := Aside0.mk hb5; clear hj5 hb5 hg5 hk5 hz5))
      refine bodyPost_end (results_none rfl _ _ _) rfl ?_
      exact ⟨rfl, ⟨N, NN.out, J5.out⟩, B5.out⟩
end

-- NOT PRINTED: function 88 (abi_NoEscape)

-- NOT PRINTED: function 86 (strings_Builder_copyCheck)

-- NOT PRINTED: function 78 (strings_Builder_WriteString)
end Go.Proofs.YtnpgadfoohjlnaaDoor.QT
