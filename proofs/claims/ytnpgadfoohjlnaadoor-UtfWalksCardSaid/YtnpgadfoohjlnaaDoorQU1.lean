/- Where a Lean function of this text answers, the Go function of its name comes to that answer: no other condition. Written by a program of this session out of the translation; Lean checks it. -/
import Derived.Test.YtnpgadfoohjlnaaDoorQU0
namespace Go.Proofs.YtnpgadfoohjlnaaDoor.QU
open Go.RowKit Go.Proofs.YtnpgadfoohjlnaaDoorW.PrintWords Go.Proofs.YtnpgadfoohjlnaaDoorW.PrintLast Go.Proofs.YtnpgadfoohjlnaaDoorW.PrintMore Go.Proofs.YtnpgadfoohjlnaaDoorW.PrintX
attribute [local go_sem] max2_int min2_int max_two min_two max_three min_three max_four min_four   -- for this text's walks alone
set_option linter.unusedVariables false
set_option linter.unusedSimpArgs false

-- NOT PRINTED: function 72 (reflectlite_TypeOf)

-- NOT PRINTED: function 73 (errors_is)

/-! ### errors_Is: function 53 -/
def errors_Is.f (a0 a1 : Option Er) : Option Bool := match a0, a1 with
  | none, some (.no _) => some false
  | some (.no c), some (.no d) => some (decide (c = d))
  | some (.at_ _ (.no c)), some (.no d) => some (decide (c = d))
  | _, _ => none
theorem errors_Is.isTypeOf (v : Value) (w : World) : (Extern.ReflectliteType.typeOf #[.iface 82 v]).run Tryd.prog w = .ok (.iface 127 (.agg #[.pointer (some ⟨4, 82, none⟩)])) w := by kernel_rfl
theorem errors_Is.isComparable (w : World) : (callFunc 128 #[.agg #[.pointer (some ⟨4, 82, none⟩)]]).run Tryd.prog w = .ok (.value (.bool true)) w := by
  rw [@run_callFunc_extern Tryd.prog 128 _ (Extern.ReflectliteType.method fun t => do Extern.Rtype.noPackHeld "Comparable" t; pure (.bool (← typeInfo t).comparable)) Tryd.func128 (by kernel_rfl) (by kernel_rfl) (by kernel_rfl) (by kernel_rfl)]
  have h : ((Extern.ReflectliteType.method fun t => do Extern.Rtype.noPackHeld "Comparable" t; pure (.bool (← typeInfo t).comparable)) #[.agg #[.pointer (some ⟨4, 82, none⟩)]]).run Tryd.prog w = .ok (.bool true) w := by kernel_rfl
  rw [h]; rfl
theorem errors_Is.isTypeOfE (v : Value) (w : World) : (callFunc 72 #[.iface 82 v]).run Tryd.prog w = .ok (.value (.iface 127 (.agg #[.pointer (some ⟨4, 82, none⟩)]))) w := by
  rw [@run_callFunc_extern Tryd.prog 72 _ Extern.ReflectliteType.typeOf Tryd.func72 (by kernel_rfl) (by kernel_rfl) (by kernel_rfl) (by kernel_rfl), errors_Is.isTypeOf]; rfl
theorem errors_Is.isMethodComparable (v : Value) (w : World) : (Go.method 286 127 v "Comparable").run Tryd.prog w = .ok (128, v) w := by kernel_rfl
theorem errors_Is.noIsE (v : Value) (xT : TypeId) (w : World) : (Instr.typeAssert (.iface 82 v) xT 129 true).run Tryd.prog w = .ok (.tuple #[.nilIface, .bool false]) w := Go.run_typeAssert_lacksB Tryd.underlying129 (by kernel_rfl) (by kernel_rfl) v xT w
theorem errors_Is.noUnwrapE (v : Value) (xT : TypeId) (w : World) : (Instr.typeAssert (.iface 82 v) xT 132 true).run Tryd.prog w = .ok (.tuple #[.nilIface, .bool false]) w := Go.run_typeAssert_lacksB Tryd.underlying132 (by kernel_rfl) (by kernel_rfl) v xT w
theorem errors_Is.noUnwrapsE (v : Value) (xT : TypeId) (w : World) : (Instr.typeAssert (.iface 82 v) xT 134 true).run Tryd.prog w = .ok (.tuple #[.nilIface, .bool false]) w := Go.run_typeAssert_lacksB Tryd.underlying134 (by kernel_rfl) (by kernel_rfl) v xT w
theorem errors_Is.noIsA (v : Value) (xT : TypeId) (w : World) : (Instr.typeAssert (.iface 84 v) xT 129 true).run Tryd.prog w = .ok (.tuple #[.nilIface, .bool false]) w := Go.run_typeAssert_lacksB Tryd.underlying129 (by kernel_rfl) (by kernel_rfl) v xT w
theorem errors_Is.hasUnwrapA (v : Value) (xT : TypeId) (w : World) : (Instr.typeAssert (.iface 84 v) xT 132 true).run Tryd.prog w = .ok (.tuple #[.iface 84 v, .bool true]) w := Go.run_typeAssert_hasB Tryd.underlying132 (by kernel_rfl) v xT w
theorem errors_Is.methodUnwrap (v : Value) (w : World) : (Go.method 286 84 v "Unwrap").run Tryd.prog w = .ok (121, v) w := by kernel_rfl

theorem errors_Is.isComp : (Tryd.prog.info? 82).map (·.comparable) = some true := by kernel_rfl
theorem errors_Is.calls_no (c d : Int) (w : World) : Calls Tryd.prog 53 #[.iface 82 (.int .i64 c), .iface 82 (.int .i64 d)] w fun e w' => e = .returned (.bool (decide (c = d))) ∧ w' = w := by
  have tT := errors_Is.isTypeOfE
  have cT := errors_Is.isComparable
  have mR := errors_Is.isMethodComparable
  have nE := errors_Is.noIsE
  have uE := errors_Is.noUnwrapE
  have vE := errors_Is.noUnwrapsE
  have heq : ∀ (c d : Int) W, (binOp .eql 27 (.iface 82 (.int .i64 c)) (.iface 82 (.int .i64 d))).run Tryd.prog W = .ok (.bool (decide (c = d))) W := by
    intro c d W
    rw [Go.Lib.run_eql_iface_int W c d Tryd.underlying27 errors_Is.isComp Tryd.underlying82]; rfl
  by_cases hcd : c = d
  · have h1 := heq c d
    rw [decide_eq_true hcd] at h1
    rw [decide_eq_true hcd]
    go_enter Tryd.func53, Tryd.ntmps53
    go_wp2
    refine wp_loop_rounds 1 ?_
    rw [rounds_succ]
    go_wp2
    go_ret
    exact ⟨rfl, rfl⟩
  · have h1 := heq c d
    rw [decide_eq_false hcd] at h1
    rw [decide_eq_false hcd]
    go_enter Tryd.func53, Tryd.ntmps53
    go_wp2
    refine wp_loop_rounds 1 ?_
    rw [rounds_succ]
    go_wp2
    go_ret
    exact ⟨rfl, rfl⟩
theorem errors_Is.unwraps (off : Int) (v : Value) (w : World) : Calls Tryd.prog 121 #[.agg #[.int .i64 off, v]] w fun e w' => e = .returned v ∧ Below w.heap.size w w' := by
  go_enter Tryd.func121, Tryd.ntmps121
  go_wp2
  go_ret
  exact ⟨rfl, (Below.refl _ _).alloc (Nat.le_refl _) _⟩
theorem errors_Is.calls_nil (d : Int) (w : World) : Calls Tryd.prog 53 #[.nilIface, .iface 82 (.int .i64 d)] w fun e w' => e = .returned (.bool false) ∧ w' = w := by
  have hn := fun W => run_eql_iface_nil_left (P := Tryd.prog) W 82 (.int .i64 d) Tryd.underlying27
  go_enter Tryd.func53, Tryd.ntmps53
  go_wp2
  go_ret
  exact ⟨rfl, rfl⟩
theorem errors_Is.calls_at (o c d : Int) (w : World) : Calls Tryd.prog 53 #[.iface 84 (.agg #[.int .i64 o, .iface 82 (.int .i64 c)]), .iface 82 (.int .i64 d)] w fun e w' => e = .returned (.bool (decide (c = d))) ∧ Below w.heap.size w w' := by
  have tT := errors_Is.isTypeOfE
  have cT := errors_Is.isComparable
  have mR := errors_Is.isMethodComparable
  have nE := errors_Is.noIsE
  have uE := errors_Is.noUnwrapE
  have vE := errors_Is.noUnwrapsE
  have heq : ∀ (c d : Int) W, (binOp .eql 27 (.iface 82 (.int .i64 c)) (.iface 82 (.int .i64 d))).run Tryd.prog W = .ok (.bool (decide (c = d))) W := by
    intro c d W
    rw [Go.Lib.run_eql_iface_int W c d Tryd.underlying27 errors_Is.isComp Tryd.underlying82]; rfl
  have nA := errors_Is.noIsA
  have hA := errors_Is.hasUnwrapA
  have mU := errors_Is.methodUnwrap
  have hty := fun v W => run_eql_iface_types (P := Tryd.prog) 84 82 v (.int .i64 d) Tryd.underlying27 (by decide) W
  by_cases hcd : c = d
  · have h1 := heq c d
    rw [decide_eq_true hcd] at h1
    rw [decide_eq_true hcd]
    go_enter Tryd.func53, Tryd.ntmps53
    go_wp2
    refine wp_loop_rounds 2 ?_
    rw [rounds_succ]
    go_wp2_with (first | (go_at_call 121; refine (errors_Is.unwraps _ _ _).mono ?_; rintro _ w1 ⟨rfl, hb⟩))
    rw [rounds_succ]
    go_wp2
    go_ret
    exact ⟨rfl, hb⟩
  · have h1 := heq c d
    rw [decide_eq_false hcd] at h1
    rw [decide_eq_false hcd]
    go_enter Tryd.func53, Tryd.ntmps53
    go_wp2
    refine wp_loop_rounds 2 ?_
    rw [rounds_succ]
    go_wp2_with (first | (go_at_call 121; refine (errors_Is.unwraps _ _ _).mono ?_; rintro _ w1 ⟨rfl, hb⟩))
    rw [rounds_succ]
    go_wp2
    go_ret
    exact ⟨rfl, hb⟩
theorem errors_Is.calls (a0 a1 : Option Er) (r : Bool) (w : World) (h : errors_Is.f a0 a1 = some r) :
    Calls Tryd.prog 53 #[errW a0, errW a1] w fun e w' => e = .returned (.bool r) ∧ Below w.heap.size w w' := by
  unfold errors_Is.f at h
  split at h
  · cases h
    exact (errors_Is.calls_nil _ w).mono (by rintro e w' ⟨rfl, rfl⟩; exact ⟨rfl, Below.refl _ _⟩)
  · cases h
    exact (errors_Is.calls_no _ _ w).mono (by rintro e w' ⟨rfl, rfl⟩; exact ⟨rfl, Below.refl _ _⟩)
  · cases h
    exact errors_Is.calls_at _ _ _ w
  · cases h

/-! ### cavillaw01_Code: function 13 -/
def cavillaw01_Code.l0 : Nat → Option Er → Int → Option (Int)
  | 0, _, _ => none
  | k + 1, x0, x3 => if x3 ≤ 25 then ((errors_Is.f x0 (some (Er.no x3))).bind fun t102 => (if t102 = true then (some x3) else (cavillaw01_Code.l0 k x0 (wrap64 (x3 + 1))))) else (some (-1))
def cavillaw01_Code.f (k : Nat) (a0 : Option Er) : Option (Int) := if a0.isNone = true then (some 0) else (cavillaw01_Code.l0 k (some (a0.getD (Er.no 0))) 1)
theorem cavillaw01_Code.mono_l : ∀ k, (∀ y0 y1, LeO (cavillaw01_Code.l0 k y0 y1) (cavillaw01_Code.l0 (k + 1) y0 y1))
  | 0 => fun _ _ r h => by simp [cavillaw01_Code.l0] at h
  | k + 1 => by
    have ih0 := cavillaw01_Code.mono_l k
    · intro y0 y1
      unfold cavillaw01_Code.l0
      repeat' first
      | (with_reducible exact ih0 _ _)
      | (with_reducible exact LeO.refl _)
      | (with_reducible exact LeO.none _)
      | (with_reducible refine LeO.ite ?_ ?_)
      | (with_reducible refine LeO.bind ?_ (fun _ => ?_))
      | exact ih0 _ _
      | exact LeO.none _
      | refine LeO.ite ?_ ?_
      | refine LeO.bind ?_ (fun _ => ?_)
theorem cavillaw01_Code.mono : ∀ a0 k, LeO (cavillaw01_Code.f k a0) (cavillaw01_Code.f (k + 1) a0) := by
  intro a0 k
  have ih0 := cavillaw01_Code.mono_l k
  unfold cavillaw01_Code.f
  repeat' first
      | (with_reducible exact ih0 _ _)
      | (with_reducible exact LeO.refl _)
      | (with_reducible exact LeO.none _)
      | (with_reducible refine LeO.ite ?_ ?_)
      | (with_reducible refine LeO.bind ?_ (fun _ => ?_))
      | exact ih0 _ _
      | exact LeO.none _
      | refine LeO.ite ?_ ?_
      | refine LeO.bind ?_ (fun _ => ?_)
set_option maxHeartbeats 8000000 in
set_option maxRecDepth 100000 in
theorem cavillaw01_Code.calls (k : Nat) (a0 : Option Er) (r : Int) (w : World) (h : cavillaw01_Code.f k a0 = some r) :
    Calls Tryd.prog 13 #[errW a0] w fun e w' => e = .returned (.int .i64 r) ∧ Below w.heap.size w w' := by
  have hu27 := Tryd.underlying27
  have hu82 := Tryd.underlying82
  have HB := Aside0.mk (Below.refl w.heap.size w)
  have H : (if a0.isNone = true then (some 0) else (cavillaw01_Code.l0 k (some (a0.getD (Er.no 0))) 1)) = some r := h
  clear h
  rcases a0 with _ | q101
  · have H1 : (some 0) = some r := by rw [if_pos (show (none : Option Er).isNone = true by rfl)] at H; exact H
    clear H
    have H := H1
    clear H1
    simp only [errW_none, errW_some, erT_no, erV_no, erT_at, erV_at]
    obtain rfl := Option.some.inj H
    go_enter Tryd.func13, Tryd.ntmps13
    go_wp2
    go_ret
    exact ⟨by first | rfl | (simp [errW_none, errW_some, erT_no, erV_no, erT_at, erV_at] <;> rfl) | (simp [*, errW_none, errW_some, erT_no, erV_no, erT_at, erV_at] <;> rfl), by repeat (first | (with_reducible first | exact HB.out | apply below_alloc | apply pw_below_drewN | apply below_drew1) | exact HB.out)⟩
  · have H1 : (cavillaw01_Code.l0 k (some q101) 1) = some r := by rw [if_neg (show ¬ (some q101).isNone = true by simp)] at H; exact H
    clear H
    have H := H1
    clear H1
    simp only [errW_none, errW_some, erT_no, erV_no, erT_at, erV_at]
    have H' := Aside0.mk H
    clear H
    go_enter Tryd.func13, Tryd.ntmps13
    go_wp2
    go_loopg [3] k (fun kq v3 w' => ∃ (x3_1 : Int), v3 = .int .i64 x3_1 ∧ Aside0 (cavillaw01_Code.l0 kq (some q101) x3_1 = some r) ∧ Aside0 (kq ≤ k) ∧ Aside0 (Below w.heap.size w w'))
    case atStart => exact ⟨(1), (by first | rfl | (simp; done) | (simp [*]; done)), H', ⟨Nat.le_refl _⟩, ⟨by repeat (first | (with_reducible first | exact HB.out | apply below_alloc | apply pw_below_drewN | apply below_drew1) | exact HB.out)⟩⟩
    case round =>
      clear H'
      try clear c1
      try clear q1
      try clear q101
      obtain ⟨x3_1, rfl, HA, HK1, HB⟩ := hrel
      cases gk with
      | zero => exact absurd HA.out (by simp [cavillaw01_Code.l0])
      | succ k1 =>
        have H := HA.out
        clear HA
        simp only [cavillaw01_Code.l0] at H
        by_cases c2 : x3_1 ≤ 25
        · rw [if_pos c2] at H
          have c2b0 : decide (x3_1 ≤ 25) = true := decide_eq_true c2
          clear c2
          replace H := Option.bind_eq_some_iff.mp H
          obtain ⟨t102, A30, H⟩ := H
          replace H : (if t102 = true then (some x3_1) else (cavillaw01_Code.l0 k1 (some q101) (wrap64 (x3_1 + 1)))) = some r := H
          have A3 := Aside0.mk A30
          clear A30
          by_cases c4 : t102 = true
          · subst c4
            have H1 : (some x3_1) = some r := by rw [if_pos rfl] at H; exact H
            clear H
            have H := H1
            clear H1
            obtain rfl := Option.some.inj H
            have CA3 := fun W => errors_Is.calls (some q101) (some (Er.no x3_1)) true W A3.out
            try simp only [errW_none, errW_some, erT_no, erV_no, erT_at, erV_at] at CA3
            go_wp2_with (first | (go_at_call 53; (with_reducible refine (CA3 _).mono ?_); rintro e w5 ⟨rfl, hb⟩; have n0_ := Aside0.mk (below_step (by repeat (first | (with_reducible first | exact HB.out | apply below_alloc | apply pw_below_drewN | apply below_drew1) | exact HB.out)) hb); clear HB; have HB := n0_; clear n0_; (try clear hb); (try clear hb2); (try clear hk); (try clear hi)))
            go_ret
            exact ⟨by first | rfl | (simp [errW_none, errW_some, erT_no, erV_no, erT_at, erV_at] <;> rfl) | (simp [*, errW_none, errW_some, erT_no, erV_no, erT_at, erV_at] <;> rfl), by repeat (first | (with_reducible first | exact HB.out | apply below_alloc | apply pw_below_drewN | apply below_drew1) | exact HB.out)⟩
          · replace c4 := Bool.eq_false_iff.mpr c4
            subst c4
            have H1 : (cavillaw01_Code.l0 k1 (some q101) (wrap64 (x3_1 + 1))) = some r := by rw [if_neg (show ¬ (false = true) by decide)] at H; exact H
            clear H
            have H := H1
            clear H1
            have H' := Aside0.mk H
            clear H
            have CA3 := fun W => errors_Is.calls (some q101) (some (Er.no x3_1)) false W A3.out
            try simp only [errW_none, errW_some, erT_no, erV_no, erT_at, erV_at] at CA3
            go_wp2_with (first | (go_at_call 53; (with_reducible refine (CA3 _).mono ?_); rintro e w6 ⟨rfl, hb⟩; have n0_ := Aside0.mk (below_step (by repeat (first | (with_reducible first | exact HB.out | apply below_alloc | apply pw_below_drewN | apply below_drew1) | exact HB.out)) hb); clear HB; have HB := n0_; clear n0_; (try clear hb); (try clear hb2); (try clear hk); (try clear hi)))
            go_roundg k1
            case measure => have := HK1.out; omega
            case rel => exact ⟨(wrap64 (x3_1 + 1)), (by first | rfl | (simp; done) | (simp [*]; done)), H', ⟨by have := HK1.out; omega⟩, ⟨by repeat (first | (with_reducible first | exact HB.out | apply below_alloc | apply pw_below_drewN | apply below_drew1) | exact HB.out)⟩⟩
        · rw [if_neg c2] at H
          have c2b0 : decide (x3_1 ≤ 25) = false := decide_eq_false c2
          clear c2
          obtain rfl := Option.some.inj H
          go_wp2
          go_ret
          exact ⟨by first | rfl | (simp [errW_none, errW_some, erT_no, erV_no, erT_at, erV_at] <;> rfl) | (simp [*, errW_none, errW_some, erT_no, erV_no, erT_at, erV_at] <;> rfl), by repeat (first | (with_reducible first | exact HB.out | apply below_alloc | apply pw_below_drewN | apply below_drew1) | exact HB.out)⟩

-- NOT PRINTED: function 74 (reflectlite_ValueOf)

-- NOT PRINTED: function 75 (reflectlite_Value_Type)

-- NOT PRINTED: function 76 (reflectlite_Value_IsNil)

-- NOT PRINTED: function 84 (reflectlite_Value_Elem)

-- NOT PRINTED: function 85 (reflectlite_Value_Set)

-- NOT PRINTED: function 77 (errors_as)

-- NOT PRINTED: function 54 (errors_As)

/-! ### cavillaw01_Off: function 14 -/
section
open Go.Extern Go.Stop Go.Extern.Stop
theorem errors_As.vOfP (t : Addr) (w : World) : (callFunc 74 #[.iface 87 (.pointer (some t))]).run Tryd.prog w = .ok (.value (.agg #[.pointer (some ⟨4, 87, none⟩), .pointer (some ⟨w.heap.size, 0, none⟩), .int .u64 150])) (w.alloc (.cells #[.pointer (some t)] 87)) := by kernel_rfl
theorem errors_As.vTypeP (a : Addr) (w : World) : (callFunc 75 #[.agg #[.pointer (some ⟨4, 87, none⟩), .pointer (some a), .int .u64 150]]).run Tryd.prog w = .ok (.value (.iface 127 (.agg #[.pointer (some ⟨4, 87, none⟩)]))) w := by kernel_rfl
theorem errors_As.mKind (h : Value) (w : World) : (Go.method 286 127 (.agg #[h]) "Kind").run Tryd.prog w = .ok (115, h) w := by kernel_rfl
theorem errors_As.mElem (h : Value) (w : World) : (Go.method 286 127 (.agg #[h]) "Elem").run Tryd.prog w = .ok (129, .agg #[h]) w := by kernel_rfl
theorem errors_As.mImpl (h : Value) (w : World) : (Go.method 286 127 (.agg #[h]) "Implements").run Tryd.prog w = .ok (130, .agg #[h]) w := by kernel_rfl
theorem errors_As.mAss (h : Value) (w : World) : (Go.method 286 127 (.agg #[h]) "AssignableTo").run Tryd.prog w = .ok (127, .agg #[h]) w := by kernel_rfl
theorem errors_As.kindP (w : World) : (callFunc 115 #[.pointer (some ⟨4, 87, none⟩)]).run Tryd.prog w = .ok (.value (.int .u8 22)) w := by kernel_rfl
theorem errors_As.kindA (w : World) : (callFunc 115 #[.pointer (some ⟨4, 84, none⟩)]).run Tryd.prog w = .ok (.value (.int .u8 25)) w := by kernel_rfl
theorem errors_As.elemP (w : World) : (callFunc 129 #[.agg #[.pointer (some ⟨4, 87, none⟩)]]).run Tryd.prog w = .ok (.value (.iface 127 (.agg #[.pointer (some ⟨4, 84, none⟩)]))) w := by kernel_rfl
theorem errors_As.implA (w : World) : (callFunc 130 #[.agg #[.pointer (some ⟨4, 84, none⟩)], .iface 127 (.agg #[.pointer (some ⟨4, 27, none⟩)])]).run Tryd.prog w = .ok (.value (.bool true)) w := by kernel_rfl
theorem errors_As.tOfA (v : Value) (w : World) : (callFunc 72 #[.iface 84 v]).run Tryd.prog w = .ok (.value (.iface 127 (.agg #[.pointer (some ⟨4, 84, none⟩)]))) w := by kernel_rfl
theorem errors_As.tOfE (v : Value) (w : World) : (callFunc 72 #[.iface 82 v]).run Tryd.prog w = .ok (.value (.iface 127 (.agg #[.pointer (some ⟨4, 82, none⟩)]))) w := by kernel_rfl
theorem errors_As.assA (w : World) : (callFunc 127 #[.agg #[.pointer (some ⟨4, 84, none⟩)], .iface 127 (.agg #[.pointer (some ⟨4, 84, none⟩)])]).run Tryd.prog w = .ok (.value (.bool true)) w := by kernel_rfl
theorem errors_As.assE (w : World) : (callFunc 127 #[.agg #[.pointer (some ⟨4, 82, none⟩)], .iface 127 (.agg #[.pointer (some ⟨4, 84, none⟩)])]).run Tryd.prog w = .ok (.value (.bool false)) w := by kernel_rfl
theorem errors_As.vOfA (o e : Value) (w : World) : (callFunc 74 #[.iface 84 (.agg #[o, e])]).run Tryd.prog w = .ok (.value (.agg #[.pointer (some ⟨4, 84, none⟩), .pointer (some ⟨w.heap.size, 0, none⟩), .int .u64 153])) (w.alloc (.cells #[o, e] 84)) := by kernel_rfl
theorem errors_As.rlm (z : Sem Value) (f : TypeId → Addr → Nat → Nat → Sem Value) (v : Value) :
    ReflectliteValue.method z f #[v] = (do match ← ReflectliteValue.parts v with | none => z | some (t, a, fl) => f t a fl (fl % 32)) := rfl
theorem errors_As.partsP (a : Addr) (w : World) : (ReflectliteValue.parts (.agg #[.pointer (some ⟨4, 87, none⟩), .pointer (some a), .int .u64 150])).run Tryd.prog w = .ok (some (87, a, 150)) w := by kernel_rfl
theorem errors_As.isNilP (a p : Addr) (W : World) (ha : W.cell? a = some (.pointer (some p))) :
    (callFunc 76 #[.agg #[.pointer (some ⟨4, 87, none⟩), .pointer (some a), .int .u64 150]]).run Tryd.prog W = .ok (.value (.bool false)) W := by
  rw [@run_callFunc_extern Tryd.prog 76 _ (ReflectliteValue.method (ReflectliteValue.valueError "reflectlite.Value.IsNil" 0) ReflectliteValue.isNil) Tryd.func76 (by kernel_rfl) (by kernel_rfl) (by kernel_rfl) (by kernel_rfl), errors_As.rlm]
  simp only [Sem.run_bind, errors_As.partsP, Result.andThen]
  simp [ReflectliteValue.isNil, loadVar, isAgg, underlying, Tryd.underlying87, ha, Result.andThen]
theorem errors_As.elemOfP (w : World) : (Rtype.elem? 87).run Tryd.prog w = .ok (some 84) w := by kernel_rfl
theorem errors_As.mkA (p : Addr) (w : World) : (ReflectliteValue.mk 84 p ReflectliteValue.flagAddr).run Tryd.prog w = .ok (.agg #[.pointer (some ⟨4, 84, none⟩), .pointer (some p), .int .u64 409]) w := by kernel_rfl
theorem errors_As.elemVP (a p : Addr) (W : World) (ha : W.cell? a = some (.pointer (some p))) :
    (callFunc 84 #[.agg #[.pointer (some ⟨4, 87, none⟩), .pointer (some a), .int .u64 150]]).run Tryd.prog W = .ok (.value (.agg #[.pointer (some ⟨4, 84, none⟩), .pointer (some p), .int .u64 409])) W := by
  rw [@run_callFunc_extern Tryd.prog 84 _ (ReflectliteValue.method (ReflectliteValue.valueError "reflectlite.Value.Elem" 0) ReflectliteValue.elem) Tryd.func84 (by kernel_rfl) (by kernel_rfl) (by kernel_rfl) (by kernel_rfl), errors_As.rlm]
  simp only [Sem.run_bind, errors_As.partsP, Result.andThen]
  simp [ReflectliteValue.elem, loadVar, isAgg, underlying, Tryd.underlying87, ha, Result.andThen, errors_As.elemOfP, errors_As.mkA]
theorem errors_As.partsAa (a : Addr) (w : World) : (ReflectliteValue.parts (.agg #[.pointer (some ⟨4, 84, none⟩), .pointer (some a), .int .u64 409])).run Tryd.prog w = .ok (some (84, a, 409)) w := by kernel_rfl
theorem errors_As.partsA (a : Addr) (w : World) : (ReflectliteValue.parts (.agg #[.pointer (some ⟨4, 84, none⟩), .pointer (some a), .int .u64 153])).run Tryd.prog w = .ok (some (84, a, 153)) w := by kernel_rfl
theorem errors_As.directA (w : World) : (Rtype.directlyAssignable 84 84).run Tryd.prog w = .ok true w := by kernel_rfl
theorem errors_As.rls (v x : Value) : ReflectliteValue.set #[v, x] = (do
    let (some (dst, a, fl), some (src, b, _)) := (← ReflectliteValue.parts v, ← ReflectliteValue.parts x)
      | unsupported (.noEntry "extern/(internal/reflectlite.Value).Set.zeroValue")
    if fl / ReflectliteValue.flagAddr % 2 == 0 then unsupported (.noEntry "extern/(internal/reflectlite.Value).Set.unaddressable")
    let val ← loadVar src b
    if ← Rtype.directlyAssignable dst src then storeVar dst a val
    else if ← Rtype.implements dst src then
      if (← Rtype.kind src) == 20 then
        match val with
        | .nilIface => unsupported (.noEntry "extern/reflectlite: a nil value of one interface type handed on as a value of another")
        | _ => storeVar dst a val
      else storeVar dst a (.iface src val)
    else panicString ("reflectlite.Set: value of type " ++ (← Rtype.spelt src) ++ " is not assignable to type " ++ (← Rtype.spelt dst))
    pure (.tuple #[])) := rfl
theorem errors_As.loadA (o e : Value) (b : Nat) (W : World) (hb0 : W.cell? ⟨b, 0, none⟩ = some o) (hb1 : W.cell? ⟨b, 1, none⟩ = some e) : (loadVar 84 ⟨b, 0, none⟩).run Tryd.prog W = .ok (.agg #[o, e]) W := by
  have h := run_loadCells_list (P := Tryd.prog) (w := W) ⟨b, 0, none⟩ [o, e] (fun j v hj => by
    match j, hj with
    | 0, hj => cases hj; exact hb0
    | 1, hj => cases hj; exact hb1)
  simp [loadVar, isAgg, underlying, Tryd.underlying84]
  simp only [List.length_cons, List.length_nil, Nat.zero_add, Nat.reduceAdd] at h
  rw [h]
  rfl
theorem errors_As.storeA (o e o' e' : Value) (t : Nat) (W : World) (h1 : o.oneCell' = true) (h2 : e.oneCell' = true) (ht0 : W.cell? ⟨t, 0, none⟩ = some o') (ht1 : W.cell? ⟨t, 1, none⟩ = some e') (hf0 : W.frozen? ⟨t, 0, none⟩ = false) (hf1 : W.frozen? ⟨t, 1, none⟩ = false) :
    (storeVar 84 ⟨t, 0, none⟩ (.agg #[o, e])).run Tryd.prog W = .ok () ((W.setCell ⟨t, 0, none⟩ o).setCell ⟨t, 1, none⟩ e) := by
  have hc : (W.setCell ⟨t, 0, none⟩ o).cell? ⟨t, 1, none⟩ = some e' := (World.cell?_setCell_other W ⟨t, 0, none⟩ ⟨t, 1, none⟩ o (by simp)).trans ht1
  have hz : (W.setCell ⟨t, 0, none⟩ o).frozen? ⟨t, 1, none⟩ = false := by rw [World.frozen?_setCell]; exact hf1
  simp [storeVar, Value.cells, storeCells, Addr.add]
  rw [run_store Tryd.prog W _ _ _ h1]
  simp [ht0, hf0, Result.andThen]
  rw [run_store Tryd.prog _ _ _ _ h2]
  simp [hc, hz]
theorem errors_As.setA (o e o' e' : Value) (t b : Nat) (W : World) (h1 : o.oneCell' = true) (h2 : e.oneCell' = true) (hb0 : W.cell? ⟨b, 0, none⟩ = some o) (hb1 : W.cell? ⟨b, 1, none⟩ = some e) (ht0 : W.cell? ⟨t, 0, none⟩ = some o') (ht1 : W.cell? ⟨t, 1, none⟩ = some e') (hf0 : W.frozen? ⟨t, 0, none⟩ = false) (hf1 : W.frozen? ⟨t, 1, none⟩ = false) :
    (callFunc 85 #[.agg #[.pointer (some ⟨4, 84, none⟩), .pointer (some ⟨t, 0, none⟩), .int .u64 409], .agg #[.pointer (some ⟨4, 84, none⟩), .pointer (some ⟨b, 0, none⟩), .int .u64 153]]).run Tryd.prog W = .ok (.value (.tuple #[])) ((W.setCell ⟨t, 0, none⟩ o).setCell ⟨t, 1, none⟩ e) := by
  rw [@run_callFunc_extern Tryd.prog 85 _ ReflectliteValue.set Tryd.func85 (by kernel_rfl) (by kernel_rfl) (by kernel_rfl) (by kernel_rfl), errors_As.rls]
  simp only [Sem.run_bind, errors_As.partsAa, errors_As.partsA, Result.andThen]
  simp [ReflectliteValue.flagAddr, errors_As.loadA o e b W hb0 hb1, Result.andThen, errors_As.directA, errors_As.storeA o e o' e' t W h1 h2 ht0 ht1 hf0 hf1]
theorem errors_As.noAs84 (v : Value) (xT : TypeId) (w : World) : (Instr.typeAssert (.iface 82 v) xT 139 true).run Tryd.prog w = .ok (.tuple #[.nilIface, .bool false]) w := Go.run_typeAssert_lacksB Tryd.underlying139 (by kernel_rfl) (by kernel_rfl) v xT w
theorem errors_As.noUnwrapE (v : Value) (xT : TypeId) (w : World) : (Instr.typeAssert (.iface 82 v) xT 132 true).run Tryd.prog w = .ok (.tuple #[.nilIface, .bool false]) w := Go.run_typeAssert_lacksB Tryd.underlying132 (by kernel_rfl) (by kernel_rfl) v xT w
theorem errors_As.noUnwrapsE (v : Value) (xT : TypeId) (w : World) : (Instr.typeAssert (.iface 82 v) xT 134 true).run Tryd.prog w = .ok (.tuple #[.nilIface, .bool false]) w := Go.run_typeAssert_lacksB Tryd.underlying134 (by kernel_rfl) (by kernel_rfl) v xT w
/-- errors.As(At{o, e}, &a): the variable gets the error. -/
theorem errors_As.as_hit (B t : Nat) (o e o' e' : Value) (w : World) (ho : o.oneCell' = true) (he : e.oneCell' = true) (hg : w.cell? ⟨0, 0, none⟩ = some (.iface 127 (.agg #[.pointer (some ⟨4, 27, none⟩)]))) (ht : w.heap[t]? = some (.cells #[o', e'] 84 (0, 0))) (hB : B ≤ t) (hBw : B ≤ w.heap.size) :
    Calls Tryd.prog 54 #[.iface 84 (.agg #[o, e]), .iface 87 (.pointer (some ⟨t, 0, none⟩))] w fun ev w' => ev = .returned (.bool true) ∧ w'.heap[t]? = some (.cells #[o, e] 84 (0, 0)) ∧ Below B w w' := by
  have f1 := errors_As.vOfP
  have f2 := errors_As.vTypeP
  have f3 := errors_As.mKind
  have f4 := errors_As.mElem
  have f5 := errors_As.mImpl
  have f6 := errors_As.mAss
  have f7 := errors_As.kindP
  have f8 := errors_As.kindA
  have f9 := errors_As.elemP
  have f10 := errors_As.implA
  have f11 := errors_As.tOfA
  have f12 := errors_As.assA
  have f13 := errors_As.vOfA
  have htl : t < w.heap.size := by
    rcases Nat.lt_or_ge t w.heap.size with h | h
    · exact h
    · rw [Array.getElem?_eq_none h] at ht
      cases ht
  have hlt : 0 < w.heap.size := by omega
  have ht0 : w.cell? ⟨t, 0, none⟩ = some o' := by simp [World.cell?, ht]
  have ht1 : w.cell? ⟨t, 1, none⟩ = some e' := by simp [World.cell?, ht]
  have hf0 : w.frozen? ⟨t, 0, none⟩ = false := by simp [World.frozen?, ht]
  have hf1 : w.frozen? ⟨t, 1, none⟩ = false := by simp [World.frozen?, ht]
  obtain ⟨w1, hw1⟩ : ∃ w1, w1 = w.alloc (.cells #[.pointer (some ⟨t, 0, none⟩)] 87) := ⟨_, rfl⟩
  obtain ⟨w2, hw2⟩ : ∃ w2, w2 = w1.alloc (.cells #[.pointer (some ⟨4, 87, none⟩), .pointer (some ⟨w.heap.size, 0, none⟩), .int .u64 150] 114) := ⟨_, rfl⟩
  obtain ⟨w3, hw3⟩ : ∃ w3, w3 = w2.alloc (.cells #[.pointer (some ⟨4, 87, none⟩), .pointer (some ⟨w.heap.size, 0, none⟩), .int .u64 150] 114) := ⟨_, rfl⟩
  obtain ⟨w4, hw4⟩ : ∃ w4, w4 = w3.alloc (.cells #[o, e] 84) := ⟨_, rfl⟩
  have s1 : w1.heap.size = w.heap.size + 1 := by rw [hw1]; simp
  have s2 : w2.heap.size = w.heap.size + 2 := by rw [hw2]; simp [s1]
  have s3 : w3.heap.size = w.heap.size + 3 := by rw [hw3]; simp [s2]
  have b1 : Below w.heap.size w w1 := by rw [hw1]; exact (Below.refl _ _).alloc (Nat.le_refl _) _
  have b2 : Below w.heap.size w w2 := by rw [hw2]; exact b1.alloc (by omega) _
  have b3 : Below w.heap.size w w3 := by rw [hw3]; exact b2.alloc (by omega) _
  have b4 : Below w.heap.size w w4 := by rw [hw4]; exact b3.alloc (by omega) _
  have c1 : w1.cell? ⟨w.heap.size, 0, none⟩ = some (.pointer (some ⟨t, 0, none⟩)) := by rw [hw1, World.cell?_alloc_at _ _ _ _ (by simp)]; rfl
  have c2 : w2.cell? ⟨w.heap.size, 0, none⟩ = some (.pointer (some ⟨t, 0, none⟩)) := by rw [hw2, World.cell?_alloc_lt _ _ _ (by simp; omega)]; exact c1
  have c3 : w3.cell? ⟨w.heap.size, 0, none⟩ = some (.pointer (some ⟨t, 0, none⟩)) := by rw [hw3, World.cell?_alloc_lt _ _ _ (by simp; omega)]; exact c2
  have g2 : w2.cell? ⟨0, 0, none⟩ = some (.iface 127 (.agg #[.pointer (some ⟨4, 27, none⟩)])) := (b2.cell (p := ⟨0, 0, none⟩) hlt).trans hg
  have n2 := errors_As.isNilP ⟨w.heap.size, 0, none⟩ ⟨t, 0, none⟩ w2 c2
  have el := errors_As.elemVP ⟨w.heap.size, 0, none⟩ ⟨t, 0, none⟩ w3 c3
  have d0 : w4.cell? ⟨w3.heap.size, 0, none⟩ = some o := by rw [hw4, World.cell?_alloc_at _ _ _ _ (by simp)]; rfl
  have d1 : w4.cell? ⟨w3.heap.size, 1, none⟩ = some e := by rw [hw4, World.cell?_alloc_at _ _ _ _ (by simp)]; rfl
  have st := errors_As.setA o e o' e' t w3.heap.size w4 ho he d0 d1 ((b4.cell (p := ⟨t, 0, none⟩) htl).trans ht0) ((b4.cell (p := ⟨t, 1, none⟩) htl).trans ht1) ((b4.frozen (p := ⟨t, 0, none⟩) htl).trans hf0) ((b4.frozen (p := ⟨t, 1, none⟩) htl).trans hf1)
  have k4 : w4.heap[t]? = some (.cells #[o', e'] 84 (0, 0)) := (b4.block t htl).trans ht
  rw [hw4, hw3, hw2, hw1] at st
  rw [hw3, hw2, hw1] at el
  rw [hw2, hw1] at n2 g2
  simp only [World.size_alloc] at st el n2 g2
  go_enter Tryd.func54, Tryd.ntmps54
  go_wp2
  refine wp_loop_rounds 1 ?_
  rw [rounds_succ]
  go_wp2
  go_ret
  have q4 := blk_put (blk_put k4 0 o rfl) 1 e rfl
  have q5 := ((b4.mono hBw).setCell (p := ⟨t, 0, none⟩) hB o).setCell (p := ⟨t, 1, none⟩) hB e
  rw [hw4, hw3, hw2, hw1] at q4 q5
  exact ⟨rfl, q4, q5⟩
/-- errors.As(number, &a): no. -/
theorem errors_As.as_miss (t : Nat) (c : Int) (o' e' : Value) (w : World) (hg : w.cell? ⟨0, 0, none⟩ = some (.iface 127 (.agg #[.pointer (some ⟨4, 27, none⟩)]))) (ht : w.heap[t]? = some (.cells #[o', e'] 84 (0, 0))) :
    Calls Tryd.prog 54 #[.iface 82 (.int .i64 c), .iface 87 (.pointer (some ⟨t, 0, none⟩))] w fun ev w' => ev = .returned (.bool false) ∧ Below w.heap.size w w' := by
  have f1 := errors_As.vOfP
  have f2 := errors_As.vTypeP
  have f3 := errors_As.mKind
  have f4 := errors_As.mElem
  have f5 := errors_As.mImpl
  have f6 := errors_As.mAss
  have f7 := errors_As.kindP
  have f8 := errors_As.kindA
  have f9 := errors_As.elemP
  have f10 := errors_As.implA
  have f11 := errors_As.tOfE
  have f12 := errors_As.assE
  have f13 := errors_As.noAs84
  have f14 := errors_As.noUnwrapE
  have f15 := errors_As.noUnwrapsE
  have htl : t < w.heap.size := by
    rcases Nat.lt_or_ge t w.heap.size with h | h
    · exact h
    · rw [Array.getElem?_eq_none h] at ht
      cases ht
  have hlt : 0 < w.heap.size := by omega
  obtain ⟨w1, hw1⟩ : ∃ w1, w1 = w.alloc (.cells #[.pointer (some ⟨t, 0, none⟩)] 87) := ⟨_, rfl⟩
  obtain ⟨w2, hw2⟩ : ∃ w2, w2 = w1.alloc (.cells #[.pointer (some ⟨4, 87, none⟩), .pointer (some ⟨w.heap.size, 0, none⟩), .int .u64 150] 114) := ⟨_, rfl⟩
  obtain ⟨w3, hw3⟩ : ∃ w3, w3 = w2.alloc (.cells #[.pointer (some ⟨4, 87, none⟩), .pointer (some ⟨w.heap.size, 0, none⟩), .int .u64 150] 114) := ⟨_, rfl⟩
  have s1 : w1.heap.size = w.heap.size + 1 := by rw [hw1]; simp
  have s2 : w2.heap.size = w.heap.size + 2 := by rw [hw2]; simp [s1]
  have b1 : Below w.heap.size w w1 := by rw [hw1]; exact (Below.refl _ _).alloc (Nat.le_refl _) _
  have b2 : Below w.heap.size w w2 := by rw [hw2]; exact b1.alloc (by omega) _
  have b3 : Below w.heap.size w w3 := by rw [hw3]; exact b2.alloc (by omega) _
  have c1 : w1.cell? ⟨w.heap.size, 0, none⟩ = some (.pointer (some ⟨t, 0, none⟩)) := by rw [hw1, World.cell?_alloc_at _ _ _ _ (by simp)]; rfl
  have c2 : w2.cell? ⟨w.heap.size, 0, none⟩ = some (.pointer (some ⟨t, 0, none⟩)) := by rw [hw2, World.cell?_alloc_lt _ _ _ (by simp; omega)]; exact c1
  have g2 : w2.cell? ⟨0, 0, none⟩ = some (.iface 127 (.agg #[.pointer (some ⟨4, 27, none⟩)])) := (b2.cell (p := ⟨0, 0, none⟩) hlt).trans hg
  have n2 := errors_As.isNilP ⟨w.heap.size, 0, none⟩ ⟨t, 0, none⟩ w2 c2
  rw [hw2, hw1] at n2 g2
  go_enter Tryd.func54, Tryd.ntmps54
  go_wp2
  refine wp_loop_rounds 1 ?_
  rw [rounds_succ]
  go_wp2
  go_ret
  have q5 := b3
  rw [hw3, hw2, hw1] at q5
  exact ⟨rfl, q5⟩
end
def cavillaw01_Off.f (a0 : Option Er) : Option Int := match a0 with
  | none => some (-1)
  | some (.no _) => some (-1)
  | some (.at_ o _) => some o
theorem cavillaw01_Off.one (e : Er) : (Value.iface (erT e) (erV e)).oneCell' = true := rfl
theorem cavillaw01_Off.calls (a0 : Option Er) (r : Int) (w : World) (hG : GL_ w) (h : cavillaw01_Off.f a0 = some r) :
    Calls Tryd.prog 14 #[errW a0] w fun e w' => e = .returned (.int .i64 r) ∧ Below w.heap.size w w' := by
  have hu := Tryd.underlying84
  rcases a0 with _ | (c | ⟨o, e⟩)
  · cases h
    simp only [errW_none]
    go_enter Tryd.func14, Tryd.ntmps14
    go_wp2_with (first | ((with_reducible refine gate_dst (N := 3) rfl ?_); refine box_event ?hg (N := 3) ?hd (cs := #[.int .i64 0, .nilIface]) (t := 84) ?hr ?_; (case hd => rfl); (case hg => rfl); (case hr => first | (go_simp; done) | (go_simp; rfl)); intro t egt w2 hxt hbt; have sgt := Nat.le_of_eq egt.symm; clear egt))
    go_ret
    exact ⟨rfl, hbt⟩
  · cases h
    simp only [errW_some, erT_no, erV_no]
    go_enter Tryd.func14, Tryd.ntmps14
    go_wp2_with (first | ((with_reducible refine gate_dst (N := 3) rfl ?_); refine box_event ?hg (N := 3) ?hd (cs := #[.int .i64 0, .nilIface]) (t := 84) ?hr ?_; (case hd => rfl); (case hg => rfl); (case hr => first | (go_simp; done) | (go_simp; rfl)); intro t egt w2 hxt hbt; have sgt := Nat.le_of_eq egt.symm; clear egt) | (go_at_call 54; (refine (errors_As.as_miss t c _ _ _ (GL_below hG hbt) hxt).mono ?_); rintro e_ w3 ⟨rfl, hb3⟩))
    go_ret
    exact ⟨rfl, hbt.trans (hb3.mono hbt.size)⟩
  · cases h
    simp only [errW_some, erT_at, erV_at]
    go_enter Tryd.func14, Tryd.ntmps14
    go_wp2_with (first | ((with_reducible refine gate_dst (N := 3) rfl ?_); refine box_event ?hg (N := 3) ?hd (cs := #[.int .i64 0, .nilIface]) (t := 84) ?hr ?_; (case hd => rfl); (case hg => rfl); (case hr => first | (go_simp; done) | (go_simp; rfl)); intro t egt w2 hxt hbt; have sgt := Nat.le_of_eq egt.symm; clear egt) | (go_at_call 54; (refine (errors_As.as_hit w.heap.size t (.int .i64 _) (.iface (erT e) (erV e)) _ _ _ rfl rfl (GL_below hG hbt) hxt sgt hbt.size).mono ?_); rintro e_ w3 ⟨rfl, hx3, hb3⟩; have q0 := blk_cell hx3 0; simp only [List.getElem?_toArray, List.getElem?_cons_zero] at q0))
    go_ret
    exact ⟨rfl, hbt.trans hb3⟩

/-! ### utf_valid: function 62 -/
def utf_valid.f (a0 : Int) : Option (Bool) := if a0 ≥ 0 then (if a0 ≤ 1114111 then (if a0 < 55296 then (some true) else (some (decide (a0 > 57343)))) else (some false)) else (some false)
set_option maxHeartbeats 8000000 in
set_option maxRecDepth 100000 in
theorem utf_valid.calls (a0 : Int) (r : Bool) (w : World) (h : utf_valid.f a0 = some r) :
    Calls Tryd.prog 62 #[.int .i32 a0] w fun e w' => e = .returned (.bool r) ∧ Drawn0 w w' := by
  have H : (if a0 ≥ 0 then (if a0 ≤ 1114111 then (if a0 < 55296 then (some true) else (some (decide (a0 > 57343)))) else (some false)) else (some false)) = some r := h
  clear h
  by_cases c2 : a0 ≥ 0
  · rw [if_pos c2] at H
    have c2b0 : decide (0 ≤ a0) = true := decide_eq_true c2
    clear c2
    by_cases c3 : a0 ≤ 1114111
    · rw [if_pos c3] at H
      have c3b0 : decide (a0 ≤ 1114111) = true := decide_eq_true c3
      clear c3
      by_cases c4 : a0 < 55296
      · rw [if_pos c4] at H
        have c4b0 : decide (a0 < 55296) = true := decide_eq_true c4
        clear c4
        obtain rfl := Option.some.inj H
        go_enter Tryd.func62, Tryd.ntmps62
        go_wp2
        go_ret
        exact ⟨by first | rfl | (simp; done) | (simp [*]; done), by repeat (first | exact Drawn0.refl _ | apply Drawn0.step)⟩
      · rw [if_neg c4] at H
        have c4b0 : decide (a0 < 55296) = false := decide_eq_false c4
        clear c4
        obtain rfl := Option.some.inj H
        go_enter Tryd.func62, Tryd.ntmps62
        go_wp2
        go_ret
        exact ⟨by first | rfl | (simp; done) | (simp [*]; done), by repeat (first | exact Drawn0.refl _ | apply Drawn0.step)⟩
    · rw [if_neg c3] at H
      have c3b0 : decide (a0 ≤ 1114111) = false := decide_eq_false c3
      clear c3
      obtain rfl := Option.some.inj H
      go_enter Tryd.func62, Tryd.ntmps62
      go_wp2
      go_ret
      exact ⟨by first | rfl | (simp; done) | (simp [*]; done), by repeat (first | exact Drawn0.refl _ | apply Drawn0.step)⟩
  · rw [if_neg c2] at H
    have c2b0 : decide (0 ≤ a0) = false := decide_eq_false c2
    clear c2
    obtain rfl := Option.some.inj H
    go_enter Tryd.func62, Tryd.ntmps62
    go_wp2
    go_ret
    exact ⟨by first | rfl | (simp; done) | (simp [*]; done), by repeat (first | exact Drawn0.refl _ | apply Drawn0.step)⟩

/-! ### utf_Encode: function 27 -/
set_option maxHeartbeats 8000000 in
set_option maxRecDepth 100000 in
theorem utf_Encode.six12 (B g rb : Nat) (r : Int) (v : Value) (xs : List Int) (w : World) (hg : w.heap[g]? = some (.cells #[v] 47 (0, 0))) (hrb : w.heap[rb]? = some (.cells #[.int .i32 r] 21 (0, 0))) (ho : (Kd.int .u8).R 5 w B (fun k_ => k_ ≠ g ∧ k_ ≠ rb) v xs) (hB : B ≤ g) (hBw : B ≤ w.heap.size) (hl : (xs.length + 1) * 1 ≤ 140737488355328) :
    Calls Tryd.prog 66 #[.int .i64 12, .pointer (some ⟨g, 0, none⟩), .pointer (some ⟨rb, 0, none⟩)] w fun e w' => ∃ v1 : Value, e = .returned (.tuple #[]) ∧ w'.heap[g]? = some (.cells #[v1] 47 (0, 0)) ∧ w'.heap[rb]? = some (.cells #[.int .i32 r] 21 (0, 0)) ∧ (Kd.int .u8).R 5 w' B (fun k_ => k_ ≠ g ∧ k_ ≠ rb) v1 (xs ++ [(bits BinOp.or IntKind.u8 128 (bits BinOp.and IntKind.u8 (IntKind.u8.wrap (r / 4096)) 63))]) ∧ Below B w w' := by
  have qg := blk_cell hg 0
  have qr := blk_cell hrb 0
  simp only [List.getElem?_toArray, List.getElem?_cons_zero] at qg qr
  go_enter Tryd.func66, Tryd.ntmps66
  go_wp2
  refine start_ (n := 10) (S := fun w' => w'.cell? ⟨g, 0, none⟩ = some v ∧ w'.cell? ⟨rb, 0, none⟩ = some (.int .i32 r) ∧ w'.heap[g]? = some (.cells #[v] 47 (0, 0)) ∧ w'.heap[rb]? = some (.cells #[.int .i32 r] 21 (0, 0)) ∧ (Kd.int .u8).R 5 w' B (fun k_ => k_ ≠ g ∧ k_ ≠ rb) v xs ∧ Below B w w') (ds := [8, 9]) #[false, false, false, false, false, false, false, false, false, false] (by kernel_rfl) rfl rfl ⟨qg, qr, hg, hrb, (Kd.R_drew ho), (Below.refl _ _).drew⟩ (fun hHeld => ?_)
  refine pure_ (i := 2) (N := some 6) (v := ?_) (a' := ?_) #[false, false, true, false, false, false, false, false, false, false] rfl rfl (by kernel_rfl) (fun _ _ _ h => h) (Or.inl ⟨by rfl, ?_⟩) ?_ ?_
  rotate_left
  · intro w'
    go_simp
    with_reducible rfl
  rotate_left
  · simp only [Act.put, List.setIfInBounds_toArray, List.set_cons_zero, List.set_cons_succ, i64_w, i32_w]
    rfl
  refine take_ (i := 0) (N := some 4) (v := ?_) (a' := ?_) #[true, false, true, false, false, false, false, false, false, false] rfl rfl (by kernel_rfl) (fun _ _ _ h => h) (Or.inl ⟨by rfl, ?_⟩) hHeld ?_ ?_
  rotate_left
  · rintro w' ⟨s0, s1, s2, s3, s4, s5⟩
    go_simp
    with_reducible rfl
  rotate_left
  · simp only [Act.put, List.setIfInBounds_toArray, List.set_cons_zero, List.set_cons_succ, i64_w, i32_w]
    rfl
  refine take_ (i := 1) (N := some 5) (v := ?_) (a' := ?_) #[true, true, true, false, false, false, false, false, false, false] rfl rfl (by kernel_rfl) (fun _ _ _ h => h) (Or.inl ⟨by rfl, ?_⟩) hHeld ?_ ?_
  rotate_left
  · rintro w' ⟨s0, s1, s2, s3, s4, s5⟩
    go_simp
    with_reducible rfl
  rotate_left
  · simp only [Act.put, List.setIfInBounds_toArray, List.set_cons_zero, List.set_cons_succ, i64_w, i32_w]
    rfl
  refine pure_ (i := 3) (N := some 7) (v := ?_) (a' := ?_) #[true, true, true, true, false, false, false, false, false, false] rfl rfl (by kernel_rfl) (fun _ _ _ h => h) (Or.inl ⟨by rfl, ?_⟩) ?_ ?_
  rotate_left
  · intro w'
    go_simp
    with_reducible rfl
  rotate_left
  · simp only [Act.put, List.setIfInBounds_toArray, List.set_cons_zero, List.set_cons_succ, i64_w, i32_w]
    rfl
  refine pure_ (i := 4) (N := some 8) (v := ?_) (a' := ?_) #[true, true, true, true, true, false, false, false, false, false] rfl rfl (by kernel_rfl) (fun _ _ _ h => h) (Or.inl ⟨by rfl, ?_⟩) ?_ ?_
  rotate_left
  · intro w'
    go_simp
    with_reducible rfl
  rotate_left
  · simp only [Act.put, List.setIfInBounds_toArray, List.set_cons_zero, List.set_cons_succ, i64_w, i32_w]
    rfl
  refine pure_ (i := 5) (N := some 9) (v := ?_) (a' := ?_) #[true, true, true, true, true, true, false, false, false, false] rfl rfl (by kernel_rfl) (fun _ _ _ h => h) (Or.inl ⟨by rfl, ?_⟩) ?_ ?_
  rotate_left
  · intro w'
    go_simp
    with_reducible rfl
  rotate_left
  · simp only [Act.put, List.setIfInBounds_toArray, List.set_cons_zero, List.set_cons_succ, i64_w, i32_w]
    rfl
  refine pure_ (i := 6) (N := some 10) (v := ?_) (a' := ?_) #[true, true, true, true, true, true, true, false, false, false] rfl rfl (by kernel_rfl) (fun _ _ _ h => h) (Or.inl ⟨by rfl, ?_⟩) ?_ ?_
  rotate_left
  · intro w'
    go_simp
    with_reducible rfl
  rotate_left
  · simp only [Act.put, List.setIfInBounds_toArray, List.set_cons_zero, List.set_cons_succ, i64_w, i32_w]
    rfl
  refine one_ (i := 7) (N := some 11) #[true, true, true, true, true, true, true, true, false, false] rfl rfl (by kernel_rfl) (by decide) (fun K hK => ?_)
  obtain ⟨s0, s1, s2, s3, s4, s5⟩ := hHeld
  refine value_ (w1 := ?_) (v := ?_) (by rfl) rfl ?_ ?_
  rotate_left 2
  · go_simp
    constructor
    · rfl
    · rfl
  refine hK.out _ _ ⟨(blk_cell (blk_alloc s2 _) 0), (blk_cell (blk_alloc s3 _) 0), blk_alloc s2 _, blk_alloc s3 _, Kd.R_alloc s4 _, s5.alloc (Nat.le_trans hBw s5.size) _⟩ (fun hHeld => ?_)
  clear hK K
  refine norm_ (a' := ?_) ?_ ?_
  rotate_left
  · show Act.put _ (some 11) _ = _
    simp only [Act.put, List.setIfInBounds_toArray, List.set_cons_zero, List.set_cons_succ, i64_w, i32_w]
    rfl
  refine last_ (i := 8) (N := some 12) #[true, true, true, true, true, true, true, true, true, false] rfl rfl (by kernel_rfl) (by decide) (fun K hK => ?_)
  refine Kd.R_append_step (Kd.int .u8) (w0 := w) B (by rfl) (.tmp 4) (.tmp 11) 47 5 (.int .u8 0) 1 rfl Tryd.underlying47 info5 rfl (by decide) (by omega) v xs (bits BinOp.or IntKind.u8 128 (bits BinOp.and IntKind.u8 (IntKind.u8.wrap (r / 4096)) 63)) [.int .u8 (bits BinOp.or IntKind.u8 128 (bits BinOp.and IntKind.u8 (IntKind.u8.wrap (r / 4096)) 63))] (fun k_ => k_ ≠ g ∧ k_ ≠ rb) (fun _ => False) rfl rfl rfl (fun _ hk => hk.elim) (fun k_ hk_ => ⟨fun e_ => by have := blk_lt hg; have := s5.size; omega, fun e_ => by have := blk_lt hrb; have := s5.size; omega⟩) s4 s5 (Nat.le_trans hBw s5.size) hl ?_
  intro v1 w2 ho2 hb2 hgr2 hat2
  have hg2 := (hgr2.block g (blk_lt s2) (fun e_ => (s4.1 g e_.symm).1 rfl)).trans s2
  have hrb2 := (hgr2.block rb (blk_lt s3) (fun e_ => (s4.1 rb e_.symm).2 rfl)).trans s3
  refine hK.out _ _ ?_
  clear hK K
  refine norm_ (a' := ?_) ?_ ?_
  rotate_left
  · show Act.put _ (some 12) _ = _
    simp only [Act.put, List.setIfInBounds_toArray, List.set_cons_zero, List.set_cons_succ, i64_w, i32_w]
    rfl
  refine last_ (i := 9) (N := none) #[true, true, true, true, true, true, true, true, true, true] rfl rfl (by kernel_rfl) (by decide) (fun K hK => ?_)
  obtain ⟨Av, cv, ev⟩ := Kd.R_slice ho2
  rw [List.length_append, List.length_singleton] at ev
  subst ev
  have fz := blk_frozen hg2 0
  have qz := blk_cell hg2 0
  simp only [List.getElem?_toArray, List.getElem?_cons_zero] at qz
  refine skip_ (w1 := ?_) (by rfl) rfl ?_ ?_
  rotate_left
  · go_simp
    rfl
  refine hK.out _ _ ?_
  clear hK K
  refine done_ (by kernel_rfl) ?_

  go_wp2
  refine bodyPost_end (results_none rfl _ _ _) rfl ?_
  exact ⟨_, rfl, blk_put hg2 0 _ rfl, blk_far hrb2 (p := ⟨g, 0, none⟩) (fun e_ => by subst e_; have := hg2.symm.trans hrb2; simp at this) _, Kd.R_keep (g := g) ho2 ((KeepBut.refl _ _ _).set_ 0 _) (fun k_ hk_ => hk_.1), hb2.setCell (p := ⟨g, 0, none⟩) hB _⟩
set_option maxHeartbeats 8000000 in
set_option maxRecDepth 100000 in
theorem utf_Encode.six6 (B g rb : Nat) (r : Int) (v : Value) (xs : List Int) (w : World) (hg : w.heap[g]? = some (.cells #[v] 47 (0, 0))) (hrb : w.heap[rb]? = some (.cells #[.int .i32 r] 21 (0, 0))) (ho : (Kd.int .u8).R 5 w B (fun k_ => k_ ≠ g ∧ k_ ≠ rb) v xs) (hB : B ≤ g) (hBw : B ≤ w.heap.size) (hl : (xs.length + 1) * 1 ≤ 140737488355328) :
    Calls Tryd.prog 66 #[.int .i64 6, .pointer (some ⟨g, 0, none⟩), .pointer (some ⟨rb, 0, none⟩)] w fun e w' => ∃ v1 : Value, e = .returned (.tuple #[]) ∧ w'.heap[g]? = some (.cells #[v1] 47 (0, 0)) ∧ w'.heap[rb]? = some (.cells #[.int .i32 r] 21 (0, 0)) ∧ (Kd.int .u8).R 5 w' B (fun k_ => k_ ≠ g ∧ k_ ≠ rb) v1 (xs ++ [(bits BinOp.or IntKind.u8 128 (bits BinOp.and IntKind.u8 (IntKind.u8.wrap (r / 64)) 63))]) ∧ Below B w w' := by
  have qg := blk_cell hg 0
  have qr := blk_cell hrb 0
  simp only [List.getElem?_toArray, List.getElem?_cons_zero] at qg qr
  go_enter Tryd.func66, Tryd.ntmps66
  go_wp2
  refine start_ (n := 10) (S := fun w' => w'.cell? ⟨g, 0, none⟩ = some v ∧ w'.cell? ⟨rb, 0, none⟩ = some (.int .i32 r) ∧ w'.heap[g]? = some (.cells #[v] 47 (0, 0)) ∧ w'.heap[rb]? = some (.cells #[.int .i32 r] 21 (0, 0)) ∧ (Kd.int .u8).R 5 w' B (fun k_ => k_ ≠ g ∧ k_ ≠ rb) v xs ∧ Below B w w') (ds := [8, 9]) #[false, false, false, false, false, false, false, false, false, false] (by kernel_rfl) rfl rfl ⟨qg, qr, hg, hrb, (Kd.R_drew ho), (Below.refl _ _).drew⟩ (fun hHeld => ?_)
  refine pure_ (i := 2) (N := some 6) (v := ?_) (a' := ?_) #[false, false, true, false, false, false, false, false, false, false] rfl rfl (by kernel_rfl) (fun _ _ _ h => h) (Or.inl ⟨by rfl, ?_⟩) ?_ ?_
  rotate_left
  · intro w'
    go_simp
    with_reducible rfl
  rotate_left
  · simp only [Act.put, List.setIfInBounds_toArray, List.set_cons_zero, List.set_cons_succ, i64_w, i32_w]
    rfl
  refine take_ (i := 0) (N := some 4) (v := ?_) (a' := ?_) #[true, false, true, false, false, false, false, false, false, false] rfl rfl (by kernel_rfl) (fun _ _ _ h => h) (Or.inl ⟨by rfl, ?_⟩) hHeld ?_ ?_
  rotate_left
  · rintro w' ⟨s0, s1, s2, s3, s4, s5⟩
    go_simp
    with_reducible rfl
  rotate_left
  · simp only [Act.put, List.setIfInBounds_toArray, List.set_cons_zero, List.set_cons_succ, i64_w, i32_w]
    rfl
  refine take_ (i := 1) (N := some 5) (v := ?_) (a' := ?_) #[true, true, true, false, false, false, false, false, false, false] rfl rfl (by kernel_rfl) (fun _ _ _ h => h) (Or.inl ⟨by rfl, ?_⟩) hHeld ?_ ?_
  rotate_left
  · rintro w' ⟨s0, s1, s2, s3, s4, s5⟩
    go_simp
    with_reducible rfl
  rotate_left
  · simp only [Act.put, List.setIfInBounds_toArray, List.set_cons_zero, List.set_cons_succ, i64_w, i32_w]
    rfl
  refine pure_ (i := 3) (N := some 7) (v := ?_) (a' := ?_) #[true, true, true, true, false, false, false, false, false, false] rfl rfl (by kernel_rfl) (fun _ _ _ h => h) (Or.inl ⟨by rfl, ?_⟩) ?_ ?_
  rotate_left
  · intro w'
    go_simp
    with_reducible rfl
  rotate_left
  · simp only [Act.put, List.setIfInBounds_toArray, List.set_cons_zero, List.set_cons_succ, i64_w, i32_w]
    rfl
  refine pure_ (i := 4) (N := some 8) (v := ?_) (a' := ?_) #[true, true, true, true, true, false, false, false, false, false] rfl rfl (by kernel_rfl) (fun _ _ _ h => h) (Or.inl ⟨by rfl, ?_⟩) ?_ ?_
  rotate_left
  · intro w'
    go_simp
    with_reducible rfl
  rotate_left
  · simp only [Act.put, List.setIfInBounds_toArray, List.set_cons_zero, List.set_cons_succ, i64_w, i32_w]
    rfl
  refine pure_ (i := 5) (N := some 9) (v := ?_) (a' := ?_) #[true, true, true, true, true, true, false, false, false, false] rfl rfl (by kernel_rfl) (fun _ _ _ h => h) (Or.inl ⟨by rfl, ?_⟩) ?_ ?_
  rotate_left
  · intro w'
    go_simp
    with_reducible rfl
  rotate_left
  · simp only [Act.put, List.setIfInBounds_toArray, List.set_cons_zero, List.set_cons_succ, i64_w, i32_w]
    rfl
  refine pure_ (i := 6) (N := some 10) (v := ?_) (a' := ?_) #[true, true, true, true, true, true, true, false, false, false] rfl rfl (by kernel_rfl) (fun _ _ _ h => h) (Or.inl ⟨by rfl, ?_⟩) ?_ ?_
  rotate_left
  · intro w'
    go_simp
    with_reducible rfl
  rotate_left
  · simp only [Act.put, List.setIfInBounds_toArray, List.set_cons_zero, List.set_cons_succ, i64_w, i32_w]
    rfl
  refine one_ (i := 7) (N := some 11) #[true, true, true, true, true, true, true, true, false, false] rfl rfl (by kernel_rfl) (by decide) (fun K hK => ?_)
  obtain ⟨s0, s1, s2, s3, s4, s5⟩ := hHeld
  refine value_ (w1 := ?_) (v := ?_) (by rfl) rfl ?_ ?_
  rotate_left 2
  · go_simp
    constructor
    · rfl
    · rfl
  refine hK.out _ _ ⟨(blk_cell (blk_alloc s2 _) 0), (blk_cell (blk_alloc s3 _) 0), blk_alloc s2 _, blk_alloc s3 _, Kd.R_alloc s4 _, s5.alloc (Nat.le_trans hBw s5.size) _⟩ (fun hHeld => ?_)
  clear hK K
  refine norm_ (a' := ?_) ?_ ?_
  rotate_left
  · show Act.put _ (some 11) _ = _
    simp only [Act.put, List.setIfInBounds_toArray, List.set_cons_zero, List.set_cons_succ, i64_w, i32_w]
    rfl
  refine last_ (i := 8) (N := some 12) #[true, true, true, true, true, true, true, true, true, false] rfl rfl (by kernel_rfl) (by decide) (fun K hK => ?_)
  refine Kd.R_append_step (Kd.int .u8) (w0 := w) B (by rfl) (.tmp 4) (.tmp 11) 47 5 (.int .u8 0) 1 rfl Tryd.underlying47 info5 rfl (by decide) (by omega) v xs (bits BinOp.or IntKind.u8 128 (bits BinOp.and IntKind.u8 (IntKind.u8.wrap (r / 64)) 63)) [.int .u8 (bits BinOp.or IntKind.u8 128 (bits BinOp.and IntKind.u8 (IntKind.u8.wrap (r / 64)) 63))] (fun k_ => k_ ≠ g ∧ k_ ≠ rb) (fun _ => False) rfl rfl rfl (fun _ hk => hk.elim) (fun k_ hk_ => ⟨fun e_ => by have := blk_lt hg; have := s5.size; omega, fun e_ => by have := blk_lt hrb; have := s5.size; omega⟩) s4 s5 (Nat.le_trans hBw s5.size) hl ?_
  intro v1 w2 ho2 hb2 hgr2 hat2
  have hg2 := (hgr2.block g (blk_lt s2) (fun e_ => (s4.1 g e_.symm).1 rfl)).trans s2
  have hrb2 := (hgr2.block rb (blk_lt s3) (fun e_ => (s4.1 rb e_.symm).2 rfl)).trans s3
  refine hK.out _ _ ?_
  clear hK K
  refine norm_ (a' := ?_) ?_ ?_
  rotate_left
  · show Act.put _ (some 12) _ = _
    simp only [Act.put, List.setIfInBounds_toArray, List.set_cons_zero, List.set_cons_succ, i64_w, i32_w]
    rfl
  refine last_ (i := 9) (N := none) #[true, true, true, true, true, true, true, true, true, true] rfl rfl (by kernel_rfl) (by decide) (fun K hK => ?_)
  obtain ⟨Av, cv, ev⟩ := Kd.R_slice ho2
  rw [List.length_append, List.length_singleton] at ev
  subst ev
  have fz := blk_frozen hg2 0
  have qz := blk_cell hg2 0
  simp only [List.getElem?_toArray, List.getElem?_cons_zero] at qz
  refine skip_ (w1 := ?_) (by rfl) rfl ?_ ?_
  rotate_left
  · go_simp
    rfl
  refine hK.out _ _ ?_
  clear hK K
  refine done_ (by kernel_rfl) ?_

  go_wp2
  refine bodyPost_end (results_none rfl _ _ _) rfl ?_
  exact ⟨_, rfl, blk_put hg2 0 _ rfl, blk_far hrb2 (p := ⟨g, 0, none⟩) (fun e_ => by subst e_; have := hg2.symm.trans hrb2; simp at this) _, Kd.R_keep (g := g) ho2 ((KeepBut.refl _ _ _).set_ 0 _) (fun k_ hk_ => hk_.1), hb2.setCell (p := ⟨g, 0, none⟩) hB _⟩
set_option maxHeartbeats 8000000 in
set_option maxRecDepth 100000 in
theorem utf_Encode.six0 (B g rb : Nat) (r : Int) (v : Value) (xs : List Int) (w : World) (hg : w.heap[g]? = some (.cells #[v] 47 (0, 0))) (hrb : w.heap[rb]? = some (.cells #[.int .i32 r] 21 (0, 0))) (ho : (Kd.int .u8).R 5 w B (fun k_ => k_ ≠ g ∧ k_ ≠ rb) v xs) (hB : B ≤ g) (hBw : B ≤ w.heap.size) (hl : (xs.length + 1) * 1 ≤ 140737488355328) :
    Calls Tryd.prog 66 #[.int .i64 0, .pointer (some ⟨g, 0, none⟩), .pointer (some ⟨rb, 0, none⟩)] w fun e w' => ∃ v1 : Value, e = .returned (.tuple #[]) ∧ w'.heap[g]? = some (.cells #[v1] 47 (0, 0)) ∧ w'.heap[rb]? = some (.cells #[.int .i32 r] 21 (0, 0)) ∧ (Kd.int .u8).R 5 w' B (fun k_ => k_ ≠ g ∧ k_ ≠ rb) v1 (xs ++ [(bits BinOp.or IntKind.u8 128 (bits BinOp.and IntKind.u8 (IntKind.u8.wrap (r)) 63))]) ∧ Below B w w' := by
  have qg := blk_cell hg 0
  have qr := blk_cell hrb 0
  simp only [List.getElem?_toArray, List.getElem?_cons_zero] at qg qr
  go_enter Tryd.func66, Tryd.ntmps66
  go_wp2
  refine start_ (n := 10) (S := fun w' => w'.cell? ⟨g, 0, none⟩ = some v ∧ w'.cell? ⟨rb, 0, none⟩ = some (.int .i32 r) ∧ w'.heap[g]? = some (.cells #[v] 47 (0, 0)) ∧ w'.heap[rb]? = some (.cells #[.int .i32 r] 21 (0, 0)) ∧ (Kd.int .u8).R 5 w' B (fun k_ => k_ ≠ g ∧ k_ ≠ rb) v xs ∧ Below B w w') (ds := [8, 9]) #[false, false, false, false, false, false, false, false, false, false] (by kernel_rfl) rfl rfl ⟨qg, qr, hg, hrb, (Kd.R_drew ho), (Below.refl _ _).drew⟩ (fun hHeld => ?_)
  refine pure_ (i := 2) (N := some 6) (v := ?_) (a' := ?_) #[false, false, true, false, false, false, false, false, false, false] rfl rfl (by kernel_rfl) (fun _ _ _ h => h) (Or.inl ⟨by rfl, ?_⟩) ?_ ?_
  rotate_left
  · intro w'
    go_simp
    with_reducible rfl
  rotate_left
  · simp only [Act.put, List.setIfInBounds_toArray, List.set_cons_zero, List.set_cons_succ, i64_w, i32_w]
    rfl
  refine take_ (i := 0) (N := some 4) (v := ?_) (a' := ?_) #[true, false, true, false, false, false, false, false, false, false] rfl rfl (by kernel_rfl) (fun _ _ _ h => h) (Or.inl ⟨by rfl, ?_⟩) hHeld ?_ ?_
  rotate_left
  · rintro w' ⟨s0, s1, s2, s3, s4, s5⟩
    go_simp
    with_reducible rfl
  rotate_left
  · simp only [Act.put, List.setIfInBounds_toArray, List.set_cons_zero, List.set_cons_succ, i64_w, i32_w]
    rfl
  refine take_ (i := 1) (N := some 5) (v := ?_) (a' := ?_) #[true, true, true, false, false, false, false, false, false, false] rfl rfl (by kernel_rfl) (fun _ _ _ h => h) (Or.inl ⟨by rfl, ?_⟩) hHeld ?_ ?_
  rotate_left
  · rintro w' ⟨s0, s1, s2, s3, s4, s5⟩
    go_simp
    with_reducible rfl
  rotate_left
  · simp only [Act.put, List.setIfInBounds_toArray, List.set_cons_zero, List.set_cons_succ, i64_w, i32_w]
    rfl
  refine pure_ (i := 3) (N := some 7) (v := ?_) (a' := ?_) #[true, true, true, true, false, false, false, false, false, false] rfl rfl (by kernel_rfl) (fun _ _ _ h => h) (Or.inl ⟨by rfl, ?_⟩) ?_ ?_
  rotate_left
  · intro w'
    go_simp
    with_reducible rfl
  rotate_left
  · simp only [Act.put, List.setIfInBounds_toArray, List.set_cons_zero, List.set_cons_succ, i64_w, i32_w]
    rfl
  refine pure_ (i := 4) (N := some 8) (v := ?_) (a' := ?_) #[true, true, true, true, true, false, false, false, false, false] rfl rfl (by kernel_rfl) (fun _ _ _ h => h) (Or.inl ⟨by rfl, ?_⟩) ?_ ?_
  rotate_left
  · intro w'
    go_simp
    with_reducible rfl
  rotate_left
  · simp only [Act.put, List.setIfInBounds_toArray, List.set_cons_zero, List.set_cons_succ, i64_w, i32_w]
    rfl
  refine pure_ (i := 5) (N := some 9) (v := ?_) (a' := ?_) #[true, true, true, true, true, true, false, false, false, false] rfl rfl (by kernel_rfl) (fun _ _ _ h => h) (Or.inl ⟨by rfl, ?_⟩) ?_ ?_
  rotate_left
  · intro w'
    go_simp
    with_reducible rfl
  rotate_left
  · simp only [Act.put, List.setIfInBounds_toArray, List.set_cons_zero, List.set_cons_succ, i64_w, i32_w]
    rfl
  refine pure_ (i := 6) (N := some 10) (v := ?_) (a' := ?_) #[true, true, true, true, true, true, true, false, false, false] rfl rfl (by kernel_rfl) (fun _ _ _ h => h) (Or.inl ⟨by rfl, ?_⟩) ?_ ?_
  rotate_left
  · intro w'
    go_simp
    with_reducible rfl
  rotate_left
  · simp only [Act.put, List.setIfInBounds_toArray, List.set_cons_zero, List.set_cons_succ, i64_w, i32_w]
    rfl
  refine one_ (i := 7) (N := some 11) #[true, true, true, true, true, true, true, true, false, false] rfl rfl (by kernel_rfl) (by decide) (fun K hK => ?_)
  obtain ⟨s0, s1, s2, s3, s4, s5⟩ := hHeld
  refine value_ (w1 := ?_) (v := ?_) (by rfl) rfl ?_ ?_
  rotate_left 2
  · go_simp
    constructor
    · rfl
    · rfl
  refine hK.out _ _ ⟨(blk_cell (blk_alloc s2 _) 0), (blk_cell (blk_alloc s3 _) 0), blk_alloc s2 _, blk_alloc s3 _, Kd.R_alloc s4 _, s5.alloc (Nat.le_trans hBw s5.size) _⟩ (fun hHeld => ?_)
  clear hK K
  refine norm_ (a' := ?_) ?_ ?_
  rotate_left
  · show Act.put _ (some 11) _ = _
    simp only [Act.put, List.setIfInBounds_toArray, List.set_cons_zero, List.set_cons_succ, i64_w, i32_w]
    rfl
  refine last_ (i := 8) (N := some 12) #[true, true, true, true, true, true, true, true, true, false] rfl rfl (by kernel_rfl) (by decide) (fun K hK => ?_)
  refine Kd.R_append_step (Kd.int .u8) (w0 := w) B (by rfl) (.tmp 4) (.tmp 11) 47 5 (.int .u8 0) 1 rfl Tryd.underlying47 info5 rfl (by decide) (by omega) v xs (bits BinOp.or IntKind.u8 128 (bits BinOp.and IntKind.u8 (IntKind.u8.wrap (r)) 63)) [.int .u8 (bits BinOp.or IntKind.u8 128 (bits BinOp.and IntKind.u8 (IntKind.u8.wrap (r)) 63))] (fun k_ => k_ ≠ g ∧ k_ ≠ rb) (fun _ => False) rfl rfl rfl (fun _ hk => hk.elim) (fun k_ hk_ => ⟨fun e_ => by have := blk_lt hg; have := s5.size; omega, fun e_ => by have := blk_lt hrb; have := s5.size; omega⟩) s4 s5 (Nat.le_trans hBw s5.size) hl ?_
  intro v1 w2 ho2 hb2 hgr2 hat2
  have hg2 := (hgr2.block g (blk_lt s2) (fun e_ => (s4.1 g e_.symm).1 rfl)).trans s2
  have hrb2 := (hgr2.block rb (blk_lt s3) (fun e_ => (s4.1 rb e_.symm).2 rfl)).trans s3
  refine hK.out _ _ ?_
  clear hK K
  refine norm_ (a' := ?_) ?_ ?_
  rotate_left
  · show Act.put _ (some 12) _ = _
    simp only [Act.put, List.setIfInBounds_toArray, List.set_cons_zero, List.set_cons_succ, i64_w, i32_w]
    rfl
  refine last_ (i := 9) (N := none) #[true, true, true, true, true, true, true, true, true, true] rfl rfl (by kernel_rfl) (by decide) (fun K hK => ?_)
  obtain ⟨Av, cv, ev⟩ := Kd.R_slice ho2
  rw [List.length_append, List.length_singleton] at ev
  subst ev
  have fz := blk_frozen hg2 0
  have qz := blk_cell hg2 0
  simp only [List.getElem?_toArray, List.getElem?_cons_zero] at qz
  refine skip_ (w1 := ?_) (by rfl) rfl ?_ ?_
  rotate_left
  · go_simp
    rfl
  refine hK.out _ _ ?_
  clear hK K
  refine done_ (by kernel_rfl) ?_

  go_wp2
  refine bodyPost_end (results_none rfl _ _ _) rfl ?_
  exact ⟨_, rfl, blk_put hg2 0 _ rfl, blk_far hrb2 (p := ⟨g, 0, none⟩) (fun e_ => by subst e_; have := hg2.symm.trans hrb2; simp at this) _, Kd.R_keep (g := g) ho2 ((KeepBut.refl _ _ _).set_ 0 _) (fun k_ hk_ => hk_.1), hb2.setCell (p := ⟨g, 0, none⟩) hB _⟩

theorem below_drewN_ {B : Nat} {w W : World} (h : Below B w W) (n : Nat) : Below B w (W.drewN n) := ⟨h.os, h.tape, h.output, h.size, h.block⟩
def utf_Encode.f (a0 : Int) : Option (List Int × Option Er) := (utf_valid.f a0).bind fun t => if t = true then (if a0 < 128 then some ([a0 % 256], none) else if a0 ≥ 65536 then some ([(240 + a0 / 262144), (bits BinOp.or IntKind.u8 128 (bits BinOp.and IntKind.u8 (IntKind.u8.wrap (a0 / 4096)) 63)), (bits BinOp.or IntKind.u8 128 (bits BinOp.and IntKind.u8 (IntKind.u8.wrap (a0 / 64)) 63)), (bits BinOp.or IntKind.u8 128 (bits BinOp.and IntKind.u8 (IntKind.u8.wrap (a0)) 63))], none) else if a0 ≥ 2048 then some ([(224 + a0 / 4096), (bits BinOp.or IntKind.u8 128 (bits BinOp.and IntKind.u8 (IntKind.u8.wrap (a0 / 64)) 63)), (bits BinOp.or IntKind.u8 128 (bits BinOp.and IntKind.u8 (IntKind.u8.wrap (a0)) 63))], none) else some ([(192 + a0 / 64), (bits BinOp.or IntKind.u8 128 (bits BinOp.and IntKind.u8 (IntKind.u8.wrap (a0)) 63))], none)) else some (([] : List Int), some (Er.no 4))
set_option maxHeartbeats 8000000 in
set_option maxRecDepth 100000 in
theorem utf_Encode.calls (a0 : Int) (r1 : List Int) (r2 : Option Er) (w : World) (h : utf_Encode.f a0 = some (r1, r2)) :
    Calls Tryd.prog 27 #[.int .i32 a0] w fun e w' => ∃ v0_ : Value, e = .returned (.tuple #[v0_, errW r2]) ∧ Kd.R (Kd.int .u8) 5 w' w.heap.size (fun _ => True) v0_ r1 ∧ Below w.heap.size w w' := by
  obtain ⟨tv, hv, h⟩ := Option.bind_eq_some_iff.mp h
  cases tv with
  | false =>
    rw [if_neg (by simp)] at h
    cases h
    go_enter Tryd.func27, Tryd.ntmps27
    go_wp2_with (first | ((with_reducible refine gate_dst (N := 1) rfl ?_); refine box_event ?hg (N := 1) ?hd (cs := #[.int .i32 a0]) (t := 21) ?hr ?_; (case hd => rfl); (case hg => rfl); (case hr => first | (go_simp; done) | (go_simp; rfl)); intro rb egr w2 hxr hbr; have sgr := Nat.le_of_eq egr.symm; clear egr; have qr := blk_cell hxr 0; simp only [List.getElem?_toArray, List.getElem?_cons_zero] at qr) | (go_at_call 62; (refine (utf_valid.calls a0 _ _ hv).mono ?_); rintro e w3 ⟨rfl, ⟨nd, rfl⟩⟩; have hxr3 := blk_drewN hxr nd; have hbr3 := below_drewN_ hbr nd; have qr3 := blk_cell hxr3 0; simp only [List.getElem?_toArray, List.getElem?_cons_zero] at qr3; generalize World.drewN _ nd = w3 at *))
    go_ret2
    exact ⟨.slice none 0 0, rfl, Kd.R_nil _ _ _ _ _, hbr3⟩
  | true =>
    rw [if_pos rfl] at h
    by_cases c1 : a0 < 128
    · rw [if_pos c1] at h
      cases h
      have c1b : decide (a0 < 128) = true := decide_eq_true c1
      go_enter Tryd.func27, Tryd.ntmps27
      go_wp2_with (first | ((with_reducible refine gate_dst (N := 1) rfl ?_); refine box_event ?hg (N := 1) ?hd (cs := #[.int .i32 a0]) (t := 21) ?hr ?_; (case hd => rfl); (case hg => rfl); (case hr => first | (go_simp; done) | (go_simp; rfl)); intro rb egr w2 hxr hbr; have sgr := Nat.le_of_eq egr.symm; clear egr; have qr := blk_cell hxr 0; simp only [List.getElem?_toArray, List.getElem?_cons_zero] at qr) | (go_at_call 62; (refine (utf_valid.calls a0 _ _ hv).mono ?_); rintro e w3 ⟨rfl, ⟨nd, rfl⟩⟩; have hxr3 := blk_drewN hxr nd; have hbr3 := below_drewN_ hbr nd; have qr3 := blk_cell hxr3 0; simp only [List.getElem?_toArray, List.getElem?_cons_zero] at qr3; generalize World.drewN _ nd = w3 at *))
      go_ret2
      refine ⟨_, rfl, Kd.R_of_own (h1 := fun _ => rfl) (World.ownsRow_lit (base := w.heap.size) (e := 5) (size := 1) w3 #[.int .u8 (a0 % 256)] 1 hbr3.size (by simp [maxLen]) rfl) (fun _ _ => trivial), hbr3.alloc hbr3.size _⟩
    · rw [if_neg c1] at h
      have c1b : decide (a0 < 128) = false := decide_eq_false c1
      by_cases c2 : a0 ≥ 65536
      · rw [if_pos c2] at h
        cases h
        have ub : a0 ≤ 1114111 := by
          rcases Int.lt_or_le 1114111 a0 with hub | hub
          · unfold utf_valid.f at hv
            rw [if_pos (by omega), if_neg (by omega)] at hv
            cases hv
          · exact hub
        have c2b : decide (a0 ≥ 65536) = true := decide_eq_true c2
        go_enter Tryd.func27, Tryd.ntmps27
        go_wp2_with (first | ((with_reducible refine gate_dst (N := 1) rfl ?_); refine box_event ?hg (N := 1) ?hd (cs := #[.int .i32 a0]) (t := 21) ?hr ?_; (case hd => rfl); (case hg => rfl); (case hr => first | (go_simp; done) | (go_simp; rfl)); intro rb egr w2 hxr hbr; have sgr := Nat.le_of_eq egr.symm; clear egr; have qr := blk_cell hxr 0; simp only [List.getElem?_toArray, List.getElem?_cons_zero] at qr) | (go_at_call 62; (refine (utf_valid.calls a0 _ _ hv).mono ?_); rintro e w3 ⟨rfl, ⟨nd, rfl⟩⟩; have hxr3 := blk_drewN hxr nd; have hbr3 := below_drewN_ hbr nd; have qr3 := blk_cell hxr3 0; simp only [List.getElem?_toArray, List.getElem?_cons_zero] at qr3; generalize World.drewN _ nd = w3 at *) | ((with_reducible refine gate_dst (N := 4) rfl ?_); refine box_event ?hg (N := 4) ?hd (cs := #[.slice none 0 0]) (t := 47) ?hr ?_; (case hd => rfl); (case hg => rfl); (case hr => first | (go_simp; done) | (go_simp; rfl)); intro g egg w4 hg4 hb4; have sgg := Nat.le_of_eq egg.symm; clear egg; have hr4 := blk_below hxr3 hb4; have bb4 := hbr3.trans (hb4.mono hbr3.size); have qg4 := blk_cell hg4 0; have qz4 := blk_frozen hg4 0; have qr4 := blk_cell hr4 0; simp only [List.getElem?_toArray, List.getElem?_cons_zero] at qg4 qr4) | ((with_reducible refine gate_dst (N := 32) rfl ?_); refine Kd.R_append (Kd.int .u8) (w0 := w) w.heap.size rfl (.tmp 26) (.tmp 31) 47 5 (.int .u8 0) 1 rfl Tryd.underlying47 info5 rfl (by decide) (by omega) _ [] (240 + a0 / 262144) [.int .u8 (240 + a0 / 262144)] (fun k_ => k_ ≠ g ∧ k_ ≠ rb) (fun _ => False) rfl rfl rfl (fun _ hk => hk.elim) ?aF ?aO ?aB ?aS ?aL ?_; (case aF => exact fun k_ hk_ => ⟨fun e_ => by have := blk_lt hg4; omega, fun e_ => by have := blk_lt hr4; omega⟩); (case aO => exact Kd.R_nil _ _ _ _ _); (case aB => exact bb4); (case aS => exact bb4.size); (case aL => decide); intro v5 w5 ho5 hb5 hgr5 hat5; have hg5 := (hgr5.block g (blk_lt hg4) (fun e_ => by cases e_)).trans hg4; have hr5 := (hgr5.block rb (blk_lt hr4) (fun e_ => by cases e_)).trans hr4; have qg5 := blk_cell hg5 0; have qz5 := blk_frozen hg5 0; simp only [List.getElem?_toArray, List.getElem?_cons_zero] at qg5; obtain ⟨Av, cv, ev⟩ := Kd.R_slice ho5; subst ev; have hwg : w.heap.size ≤ g := Nat.le_trans hbr3.size sgg) | (go_at_call 66; refine (utf_Encode.six0 w.heap.size g rb a0 _ _ _ hg7 hr7 ho7 hwg hb7.size (by simp)).mono ?_; rintro e w8 ⟨v8, rfl, hg8, hr8, ho8, hx8⟩; have hb8 := hb7.trans hx8; have qg8 := blk_cell hg8 0; simp only [List.getElem?_toArray, List.getElem?_cons_zero] at qg8) | (go_at_call 66; refine (utf_Encode.six6 w.heap.size g rb a0 _ _ _ hg6 hr6 ho6 hwg hb6.size (by simp)).mono ?_; rintro e w7 ⟨v7, rfl, hg7, hr7, ho7, hx7⟩; have hb7 := hb6.trans hx7; have qg7 := blk_cell hg7 0; simp only [List.getElem?_toArray, List.getElem?_cons_zero] at qg7) | (go_at_call 66; refine (utf_Encode.six12 w.heap.size g rb a0 _ _ _ (blk_put hg5 0 _ rfl) (blk_far hr5 (p := ⟨g, 0, none⟩) (fun e_ => by subst e_; have := hg5.symm.trans hr5; simp at this) _) (Kd.R_keep (g := g) ho5 ((KeepBut.refl _ _ _).set_ 0 _) (fun k_ hk_ => hk_.1)) hwg (hb5.setCell (p := ⟨g, 0, none⟩) hwg _).size (by simp)).mono ?_; rintro e w6 ⟨v6, rfl, hg6, hr6, ho6, hx6⟩; have hb6 := (hb5.setCell (p := ⟨g, 0, none⟩) hwg _).trans hx6; have qg6 := blk_cell hg6 0; simp only [List.getElem?_toArray, List.getElem?_cons_zero] at qg6))
        go_ret2
        exact ⟨_, rfl, Kd.R_mono ho8 (fun _ _ => trivial), hb8⟩
      · rw [if_neg c2] at h
        by_cases c3 : a0 ≥ 2048
        · rw [if_pos c3] at h
          cases h
          have c2b : decide (a0 ≥ 65536) = false := decide_eq_false c2
          have c3b : decide (a0 ≥ 2048) = true := decide_eq_true c3
          go_enter Tryd.func27, Tryd.ntmps27
          go_wp2_with (first | ((with_reducible refine gate_dst (N := 1) rfl ?_); refine box_event ?hg (N := 1) ?hd (cs := #[.int .i32 a0]) (t := 21) ?hr ?_; (case hd => rfl); (case hg => rfl); (case hr => first | (go_simp; done) | (go_simp; rfl)); intro rb egr w2 hxr hbr; have sgr := Nat.le_of_eq egr.symm; clear egr; have qr := blk_cell hxr 0; simp only [List.getElem?_toArray, List.getElem?_cons_zero] at qr) | (go_at_call 62; (refine (utf_valid.calls a0 _ _ hv).mono ?_); rintro e w3 ⟨rfl, ⟨nd, rfl⟩⟩; have hxr3 := blk_drewN hxr nd; have hbr3 := below_drewN_ hbr nd; have qr3 := blk_cell hxr3 0; simp only [List.getElem?_toArray, List.getElem?_cons_zero] at qr3; generalize World.drewN _ nd = w3 at *) | ((with_reducible refine gate_dst (N := 4) rfl ?_); refine box_event ?hg (N := 4) ?hd (cs := #[.slice none 0 0]) (t := 47) ?hr ?_; (case hd => rfl); (case hg => rfl); (case hr => first | (go_simp; done) | (go_simp; rfl)); intro g egg w4 hg4 hb4; have sgg := Nat.le_of_eq egg.symm; clear egg; have hr4 := blk_below hxr3 hb4; have bb4 := hbr3.trans (hb4.mono hbr3.size); have qg4 := blk_cell hg4 0; have qz4 := blk_frozen hg4 0; have qr4 := blk_cell hr4 0; simp only [List.getElem?_toArray, List.getElem?_cons_zero] at qg4 qr4) | ((with_reducible refine gate_dst (N := 46) rfl ?_); refine Kd.R_append (Kd.int .u8) (w0 := w) w.heap.size rfl (.tmp 40) (.tmp 45) 47 5 (.int .u8 0) 1 rfl Tryd.underlying47 info5 rfl (by decide) (by omega) _ [] (224 + a0 / 4096) [.int .u8 (224 + a0 / 4096)] (fun k_ => k_ ≠ g ∧ k_ ≠ rb) (fun _ => False) rfl rfl rfl (fun _ hk => hk.elim) ?aF ?aO ?aB ?aS ?aL ?_; (case aF => exact fun k_ hk_ => ⟨fun e_ => by have := blk_lt hg4; omega, fun e_ => by have := blk_lt hr4; omega⟩); (case aO => exact Kd.R_nil _ _ _ _ _); (case aB => exact bb4); (case aS => exact bb4.size); (case aL => decide); intro v5 w5 ho5 hb5 hgr5 hat5; have hg5 := (hgr5.block g (blk_lt hg4) (fun e_ => by cases e_)).trans hg4; have hr5 := (hgr5.block rb (blk_lt hr4) (fun e_ => by cases e_)).trans hr4; have qg5 := blk_cell hg5 0; have qz5 := blk_frozen hg5 0; simp only [List.getElem?_toArray, List.getElem?_cons_zero] at qg5; obtain ⟨Av, cv, ev⟩ := Kd.R_slice ho5; subst ev; have hwg : w.heap.size ≤ g := Nat.le_trans hbr3.size sgg) | (go_at_call 66; refine (utf_Encode.six0 w.heap.size g rb a0 _ _ _ hg6 hr6 ho6 hwg hb6.size (by simp)).mono ?_; rintro e w7 ⟨v7, rfl, hg7, hr7, ho7, hx7⟩; have hb7 := hb6.trans hx7; have qg7 := blk_cell hg7 0; simp only [List.getElem?_toArray, List.getElem?_cons_zero] at qg7) | (go_at_call 66; refine (utf_Encode.six6 w.heap.size g rb a0 _ _ _ (blk_put hg5 0 _ rfl) (blk_far hr5 (p := ⟨g, 0, none⟩) (fun e_ => by subst e_; have := hg5.symm.trans hr5; simp at this) _) (Kd.R_keep (g := g) ho5 ((KeepBut.refl _ _ _).set_ 0 _) (fun k_ hk_ => hk_.1)) hwg (hb5.setCell (p := ⟨g, 0, none⟩) hwg _).size (by simp)).mono ?_; rintro e w6 ⟨v6, rfl, hg6, hr6, ho6, hx6⟩; have hb6 := (hb5.setCell (p := ⟨g, 0, none⟩) hwg _).trans hx6; have qg6 := blk_cell hg6 0; simp only [List.getElem?_toArray, List.getElem?_cons_zero] at qg6))
          go_ret2
          exact ⟨_, rfl, Kd.R_mono ho7 (fun _ _ => trivial), hb7⟩
        · rw [if_neg c3] at h
          cases h
          have c2b : decide (a0 ≥ 65536) = false := decide_eq_false c2
          have c3b : decide (a0 ≥ 2048) = false := decide_eq_false c3
          go_enter Tryd.func27, Tryd.ntmps27
          go_wp2_with (first | ((with_reducible refine gate_dst (N := 1) rfl ?_); refine box_event ?hg (N := 1) ?hd (cs := #[.int .i32 a0]) (t := 21) ?hr ?_; (case hd => rfl); (case hg => rfl); (case hr => first | (go_simp; done) | (go_simp; rfl)); intro rb egr w2 hxr hbr; have sgr := Nat.le_of_eq egr.symm; clear egr; have qr := blk_cell hxr 0; simp only [List.getElem?_toArray, List.getElem?_cons_zero] at qr) | (go_at_call 62; (refine (utf_valid.calls a0 _ _ hv).mono ?_); rintro e w3 ⟨rfl, ⟨nd, rfl⟩⟩; have hxr3 := blk_drewN hxr nd; have hbr3 := below_drewN_ hbr nd; have qr3 := blk_cell hxr3 0; simp only [List.getElem?_toArray, List.getElem?_cons_zero] at qr3; generalize World.drewN _ nd = w3 at *) | ((with_reducible refine gate_dst (N := 4) rfl ?_); refine box_event ?hg (N := 4) ?hd (cs := #[.slice none 0 0]) (t := 47) ?hr ?_; (case hd => rfl); (case hg => rfl); (case hr => first | (go_simp; done) | (go_simp; rfl)); intro g egg w4 hg4 hb4; have sgg := Nat.le_of_eq egg.symm; clear egg; have hr4 := blk_below hxr3 hb4; have bb4 := hbr3.trans (hb4.mono hbr3.size); have qg4 := blk_cell hg4 0; have qz4 := blk_frozen hg4 0; have qr4 := blk_cell hr4 0; simp only [List.getElem?_toArray, List.getElem?_cons_zero] at qg4 qr4) | ((with_reducible refine gate_dst (N := 22) rfl ?_); refine Kd.R_append (Kd.int .u8) (w0 := w) w.heap.size rfl (.tmp 16) (.tmp 21) 47 5 (.int .u8 0) 1 rfl Tryd.underlying47 info5 rfl (by decide) (by omega) _ [] (192 + a0 / 64) [.int .u8 (192 + a0 / 64)] (fun k_ => k_ ≠ g ∧ k_ ≠ rb) (fun _ => False) rfl rfl rfl (fun _ hk => hk.elim) ?aF ?aO ?aB ?aS ?aL ?_; (case aF => exact fun k_ hk_ => ⟨fun e_ => by have := blk_lt hg4; omega, fun e_ => by have := blk_lt hr4; omega⟩); (case aO => exact Kd.R_nil _ _ _ _ _); (case aB => exact bb4); (case aS => exact bb4.size); (case aL => decide); intro v5 w5 ho5 hb5 hgr5 hat5; have hg5 := (hgr5.block g (blk_lt hg4) (fun e_ => by cases e_)).trans hg4; have hr5 := (hgr5.block rb (blk_lt hr4) (fun e_ => by cases e_)).trans hr4; have qg5 := blk_cell hg5 0; have qz5 := blk_frozen hg5 0; simp only [List.getElem?_toArray, List.getElem?_cons_zero] at qg5; obtain ⟨Av, cv, ev⟩ := Kd.R_slice ho5; subst ev; have hwg : w.heap.size ≤ g := Nat.le_trans hbr3.size sgg) | (go_at_call 66; refine (utf_Encode.six0 w.heap.size g rb a0 _ _ _ (blk_put hg5 0 _ rfl) (blk_far hr5 (p := ⟨g, 0, none⟩) (fun e_ => by subst e_; have := hg5.symm.trans hr5; simp at this) _) (Kd.R_keep (g := g) ho5 ((KeepBut.refl _ _ _).set_ 0 _) (fun k_ hk_ => hk_.1)) hwg (hb5.setCell (p := ⟨g, 0, none⟩) hwg _).size (by simp)).mono ?_; rintro e w6 ⟨v6, rfl, hg6, hr6, ho6, hx6⟩; have hb6 := (hb5.setCell (p := ⟨g, 0, none⟩) hwg _).trans hx6; have qg6 := blk_cell hg6 0; simp only [List.getElem?_toArray, List.getElem?_cons_zero] at qg6))
          go_ret2
          exact ⟨_, rfl, Kd.R_mono ho6 (fun _ _ => trivial), hb6⟩


end Go.Proofs.YtnpgadfoohjlnaaDoor.QU
