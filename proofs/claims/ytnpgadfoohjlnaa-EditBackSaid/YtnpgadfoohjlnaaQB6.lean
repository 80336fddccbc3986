/- Where a Lean function of this text answers, the Go function of its name comes to that answer: no other condition. Written by a program of this session out of the translation; Lean checks it. -/
import Derived.Test.YtnpgadfoohjlnaaQB0
namespace Go.Proofs.Ytnpgadfoohjlnaa.QB
open Go.RowKit Go.Proofs.YtnpgadfoohjlnaaW.PrintWords Go.Proofs.YtnpgadfoohjlnaaW.PrintLast Go.Proofs.YtnpgadfoohjlnaaW.PrintMore Go.Proofs.YtnpgadfoohjlnaaW.PrintX
attribute [local go_sem] max2_int min2_int max_two min_two max_three min_three max_four min_four   -- for this text's walks alone
set_option linter.unusedVariables false
set_option linter.unusedSimpArgs false

/-! ### errors_Is: function 44 -/
def errors_Is.f (a0 a1 : Option Er) : Option Bool := match a0, a1 with
  | none, some (.no _) => some false
  | some (.no c), some (.no d) => some (decide (c = d))
  | some (.at_ _ (.no c)), some (.no d) => some (decide (c = d))
  | _, _ => none
theorem errors_Is.isTypeOf (v : Value) (w : World) : (Extern.ReflectliteType.typeOf #[.iface 36 v]).run Try.prog w = .ok (.iface 95 (.agg #[.pointer (some ⟨0, 36, none⟩)])) w := by kernel_rfl
theorem errors_Is.isComparable (w : World) : (callFunc 82 #[.agg #[.pointer (some ⟨0, 36, none⟩)]]).run Try.prog w = .ok (.value (.bool true)) w := by
  rw [@run_callFunc_extern Try.prog 82 _ (Extern.ReflectliteType.method fun t => do Extern.Rtype.noPackHeld "Comparable" t; pure (.bool (← typeInfo t).comparable)) Try.func82 (by kernel_rfl) (by kernel_rfl) (by kernel_rfl) (by kernel_rfl)]
  have h : ((Extern.ReflectliteType.method fun t => do Extern.Rtype.noPackHeld "Comparable" t; pure (.bool (← typeInfo t).comparable)) #[.agg #[.pointer (some ⟨0, 36, none⟩)]]).run Try.prog w = .ok (.bool true) w := by kernel_rfl
  rw [h]; rfl
theorem errors_Is.isTypeOfE (v : Value) (w : World) : (callFunc 52 #[.iface 36 v]).run Try.prog w = .ok (.value (.iface 95 (.agg #[.pointer (some ⟨0, 36, none⟩)]))) w := by
  rw [@run_callFunc_extern Try.prog 52 _ Extern.ReflectliteType.typeOf Try.func52 (by kernel_rfl) (by kernel_rfl) (by kernel_rfl) (by kernel_rfl), errors_Is.isTypeOf]; rfl
theorem errors_Is.isMethodComparable (v : Value) (w : World) : (Go.method 248 95 v "Comparable").run Try.prog w = .ok (82, v) w := by kernel_rfl
theorem errors_Is.noIsE (v : Value) (xT : TypeId) (w : World) : (Instr.typeAssert (.iface 36 v) xT 97 true).run Try.prog w = .ok (.tuple #[.nilIface, .bool false]) w := Go.run_typeAssert_lacksB Try.underlying97 (by kernel_rfl) (by kernel_rfl) v xT w
theorem errors_Is.noUnwrapE (v : Value) (xT : TypeId) (w : World) : (Instr.typeAssert (.iface 36 v) xT 100 true).run Try.prog w = .ok (.tuple #[.nilIface, .bool false]) w := Go.run_typeAssert_lacksB Try.underlying100 (by kernel_rfl) (by kernel_rfl) v xT w
theorem errors_Is.noUnwrapsE (v : Value) (xT : TypeId) (w : World) : (Instr.typeAssert (.iface 36 v) xT 102 true).run Try.prog w = .ok (.tuple #[.nilIface, .bool false]) w := Go.run_typeAssert_lacksB Try.underlying102 (by kernel_rfl) (by kernel_rfl) v xT w
theorem errors_Is.noIsA (v : Value) (xT : TypeId) (w : World) : (Instr.typeAssert (.iface 83 v) xT 97 true).run Try.prog w = .ok (.tuple #[.nilIface, .bool false]) w := Go.run_typeAssert_lacksB Try.underlying97 (by kernel_rfl) (by kernel_rfl) v xT w
theorem errors_Is.hasUnwrapA (v : Value) (xT : TypeId) (w : World) : (Instr.typeAssert (.iface 83 v) xT 100 true).run Try.prog w = .ok (.tuple #[.iface 83 v, .bool true]) w := Go.run_typeAssert_hasB Try.underlying100 (by kernel_rfl) v xT w
theorem errors_Is.methodUnwrap (v : Value) (w : World) : (Go.method 248 83 v "Unwrap").run Try.prog w = .ok (78, v) w := by kernel_rfl

theorem errors_Is.isComp : (Try.prog.info? 36).map (·.comparable) = some true := by kernel_rfl
theorem errors_Is.calls_no (c d : Int) (w : World) : Calls Try.prog 44 #[.iface 36 (.int .i64 c), .iface 36 (.int .i64 d)] w fun e w' => e = .returned (.bool (decide (c = d))) ∧ w' = w := by
  have tT := errors_Is.isTypeOfE
  have cT := errors_Is.isComparable
  have mR := errors_Is.isMethodComparable
  have nE := errors_Is.noIsE
  have uE := errors_Is.noUnwrapE
  have vE := errors_Is.noUnwrapsE
  have heq : ∀ (c d : Int) W, (binOp .eql 32 (.iface 36 (.int .i64 c)) (.iface 36 (.int .i64 d))).run Try.prog W = .ok (.bool (decide (c = d))) W := by
    intro c d W
    rw [Go.Lib.run_eql_iface_int W c d Try.underlying32 errors_Is.isComp Try.underlying36]; rfl
  by_cases hcd : c = d
  · have h1 := heq c d
    rw [decide_eq_true hcd] at h1
    rw [decide_eq_true hcd]
    go_enter Try.func44, Try.ntmps44
    go_wp2
    refine wp_loop_rounds 1 ?_
    rw [rounds_succ]
    go_wp2
    go_ret
    exact ⟨rfl, rfl⟩
  · have h1 := heq c d
    rw [decide_eq_false hcd] at h1
    rw [decide_eq_false hcd]
    go_enter Try.func44, Try.ntmps44
    go_wp2
    refine wp_loop_rounds 1 ?_
    rw [rounds_succ]
    go_wp2
    go_ret
    exact ⟨rfl, rfl⟩
theorem errors_Is.unwraps (off : Int) (v : Value) (w : World) : Calls Try.prog 78 #[.agg #[.int .i64 off, v]] w fun e w' => e = .returned v ∧ Below w.heap.size w w' := by
  go_enter Try.func78, Try.ntmps78
  go_wp2
  go_ret
  exact ⟨rfl, (Below.refl _ _).alloc (Nat.le_refl _) _⟩
theorem errors_Is.calls_nil (d : Int) (w : World) : Calls Try.prog 44 #[.nilIface, .iface 36 (.int .i64 d)] w fun e w' => e = .returned (.bool false) ∧ w' = w := by
  have hn := fun W => run_eql_iface_nil_left (P := Try.prog) W 36 (.int .i64 d) Try.underlying32
  go_enter Try.func44, Try.ntmps44
  go_wp2
  go_ret
  exact ⟨rfl, rfl⟩
theorem errors_Is.calls_at (o c d : Int) (w : World) : Calls Try.prog 44 #[.iface 83 (.agg #[.int .i64 o, .iface 36 (.int .i64 c)]), .iface 36 (.int .i64 d)] w fun e w' => e = .returned (.bool (decide (c = d))) ∧ Below w.heap.size w w' := by
  have tT := errors_Is.isTypeOfE
  have cT := errors_Is.isComparable
  have mR := errors_Is.isMethodComparable
  have nE := errors_Is.noIsE
  have uE := errors_Is.noUnwrapE
  have vE := errors_Is.noUnwrapsE
  have heq : ∀ (c d : Int) W, (binOp .eql 32 (.iface 36 (.int .i64 c)) (.iface 36 (.int .i64 d))).run Try.prog W = .ok (.bool (decide (c = d))) W := by
    intro c d W
    rw [Go.Lib.run_eql_iface_int W c d Try.underlying32 errors_Is.isComp Try.underlying36]; rfl
  have nA := errors_Is.noIsA
  have hA := errors_Is.hasUnwrapA
  have mU := errors_Is.methodUnwrap
  have hty := fun v W => run_eql_iface_types (P := Try.prog) 83 36 v (.int .i64 d) Try.underlying32 (by decide) W
  by_cases hcd : c = d
  · have h1 := heq c d
    rw [decide_eq_true hcd] at h1
    rw [decide_eq_true hcd]
    go_enter Try.func44, Try.ntmps44
    go_wp2
    refine wp_loop_rounds 2 ?_
    rw [rounds_succ]
    go_wp2_with (first | (go_at_call 78; refine (errors_Is.unwraps _ _ _).mono ?_; rintro _ w1 ⟨rfl, hb⟩))
    rw [rounds_succ]
    go_wp2
    go_ret
    exact ⟨rfl, hb⟩
  · have h1 := heq c d
    rw [decide_eq_false hcd] at h1
    rw [decide_eq_false hcd]
    go_enter Try.func44, Try.ntmps44
    go_wp2
    refine wp_loop_rounds 2 ?_
    rw [rounds_succ]
    go_wp2_with (first | (go_at_call 78; refine (errors_Is.unwraps _ _ _).mono ?_; rintro _ w1 ⟨rfl, hb⟩))
    rw [rounds_succ]
    go_wp2
    go_ret
    exact ⟨rfl, hb⟩
theorem errors_Is.calls (a0 a1 : Option Er) (r : Bool) (w : World) (h : errors_Is.f a0 a1 = some r) :
    Calls Try.prog 44 #[errW a0, errW a1] w fun e w' => e = .returned (.bool r) ∧ Below w.heap.size w w' := by
  unfold errors_Is.f at h
  split at h
  · cases h
    exact (errors_Is.calls_nil _ w).mono (by rintro e w' ⟨rfl, rfl⟩; exact ⟨rfl, Below.refl _ _⟩)
  · cases h
    exact (errors_Is.calls_no _ _ w).mono (by rintro e w' ⟨rfl, rfl⟩; exact ⟨rfl, Below.refl _ _⟩)
  · cases h
    exact errors_Is.calls_at _ _ _ w
  · cases h

/-! ### cavillaw01_Code: function 32 -/
def cavillaw01_Code.l0 : Nat → Option Er → Int → Option (Int)
  | 0, _, _ => none
  | k + 1, x0, x3 => if x3 ≤ 25 then ((errors_Is.f x0 (some (Er.no x3))).bind fun t194 => (if t194 = true then (some x3) else (cavillaw01_Code.l0 k x0 (wrap64 (x3 + 1))))) else (some (-1))
def cavillaw01_Code.f (k : Nat) (a0 : Option Er) : Option (Int) := if a0.isNone = true then (some 0) else (cavillaw01_Code.l0 k (some (a0.getD (Er.no 0))) 1)
theorem cavillaw01_Code.mono_l : ∀ k, (∀ y0 y1, LeO (cavillaw01_Code.l0 k y0 y1) (cavillaw01_Code.l0 (k + 1) y0 y1))
  | 0 => fun _ _ r h => by simp [cavillaw01_Code.l0] at h
  | k + 1 => by
    have ih0 := cavillaw01_Code.mono_l k
    · intro y0 y1
      unfold cavillaw01_Code.l0
      repeat' first
      | (with_reducible exact ih0 _ _)
      | (with_reducible exact LeO.refl _)
      | (with_reducible exact LeO.none _)
      | (with_reducible refine LeO.ite ?_ ?_)
      | (with_reducible refine LeO.bind ?_ (fun _ => ?_))
      | exact ih0 _ _
      | exact LeO.none _
      | refine LeO.ite ?_ ?_
      | refine LeO.bind ?_ (fun _ => ?_)
theorem cavillaw01_Code.mono : ∀ a0 k, LeO (cavillaw01_Code.f k a0) (cavillaw01_Code.f (k + 1) a0) := by
  intro a0 k
  have ih0 := cavillaw01_Code.mono_l k
  unfold cavillaw01_Code.f
  repeat' first
      | (with_reducible exact ih0 _ _)
      | (with_reducible exact LeO.refl _)
      | (with_reducible exact LeO.none _)
      | (with_reducible refine LeO.ite ?_ ?_)
      | (with_reducible refine LeO.bind ?_ (fun _ => ?_))
      | exact ih0 _ _
      | exact LeO.none _
      | refine LeO.ite ?_ ?_
      | refine LeO.bind ?_ (fun _ => ?_)
set_option maxHeartbeats 8000000 in
set_option maxRecDepth 100000 in
theorem cavillaw01_Code.calls (k : Nat) (a0 : Option Er) (r : Int) (w : World) (h : cavillaw01_Code.f k a0 = some r) :
    Calls Try.prog 32 #[errW a0] w fun e w' => e = .returned (.int .i64 r) ∧ Below w.heap.size w w' := by
  have hu32 := Try.underlying32
  have hu36 := Try.underlying36
  have HB := Aside0.mk (Below.refl w.heap.size w)
  have H : (if a0.isNone = true then (some 0) else (cavillaw01_Code.l0 k (some (a0.getD (Er.no 0))) 1)) = some r := h
  clear h
  rcases a0 with _ | q193
  · have H1 : (some 0) = some r := by rw [if_pos (show (none : Option Er).isNone = true by rfl)] at H; exact H
    clear H
    have H := H1
    clear H1
    simp only [errW_none, errW_some, erT_no, erV_no, erT_at, erV_at]
    obtain rfl := Option.some.inj H
    go_enter Try.func32, Try.ntmps32
    go_wp2
    go_ret
    exact ⟨by first | rfl | (simp [errW_none, errW_some, erT_no, erV_no, erT_at, erV_at] <;> rfl) | (simp [*, errW_none, errW_some, erT_no, erV_no, erT_at, erV_at] <;> rfl), by repeat (first | (with_reducible first | exact HB.out | apply below_alloc | apply pw_below_drewN | apply below_drew1) | exact HB.out)⟩
  · have H1 : (cavillaw01_Code.l0 k (some q193) 1) = some r := by rw [if_neg (show ¬ (some q193).isNone = true by simp)] at H; exact H
    clear H
    have H := H1
    clear H1
    simp only [errW_none, errW_some, erT_no, erV_no, erT_at, erV_at]
    have H' := Aside0.mk H
    clear H
    go_enter Try.func32, Try.ntmps32
    go_wp2
    go_loopg [3] k (fun kq v3 w' => ∃ (x3_1 : Int), v3 = .int .i64 x3_1 ∧ Aside0 (cavillaw01_Code.l0 kq (some q193) x3_1 = some r) ∧ Aside0 (kq ≤ k) ∧ Aside0 (Below w.heap.size w w'))
    case atStart => exact ⟨(1), (by first | rfl | (simp; done) | (simp [*]; done)), H', ⟨Nat.le_refl _⟩, ⟨by repeat (first | (with_reducible first | exact HB.out | apply below_alloc | apply pw_below_drewN | apply below_drew1) | exact HB.out)⟩⟩
    case round =>
      clear H'
      try clear q1
      try clear q193
      obtain ⟨x3_1, rfl, HA, HK1, HB⟩ := hrel
      cases gk with
      | zero => exact absurd HA.out (by simp [cavillaw01_Code.l0])
      | succ k1 =>
        have H := HA.out
        clear HA
        simp only [cavillaw01_Code.l0] at H
        by_cases c2 : x3_1 ≤ 25
        · rw [if_pos c2] at H
          have c2b0 : decide (x3_1 ≤ 25) = true := decide_eq_true c2
          clear c2
          replace H := Option.bind_eq_some_iff.mp H
          obtain ⟨t194, A30, H⟩ := H
          replace H : (if t194 = true then (some x3_1) else (cavillaw01_Code.l0 k1 (some q193) (wrap64 (x3_1 + 1)))) = some r := H
          have A3 := Aside0.mk A30
          clear A30
          by_cases c4 : t194 = true
          · subst c4
            have H1 : (some x3_1) = some r := by rw [if_pos rfl] at H; exact H
            clear H
            have H := H1
            clear H1
            obtain rfl := Option.some.inj H
            have CA3 := fun W => errors_Is.calls (some q193) (some (Er.no x3_1)) true W A3.out
            try simp only [errW_none, errW_some, erT_no, erV_no, erT_at, erV_at] at CA3
            go_wp2_with (first | (go_at_call 44; (with_reducible refine (CA3 _).mono ?_); rintro e w5 ⟨rfl, hb⟩; have n0_ := Aside0.mk (below_step (by repeat (first | (with_reducible first | exact HB.out | apply below_alloc | apply pw_below_drewN | apply below_drew1) | exact HB.out)) hb); clear HB; have HB := n0_; clear n0_; (try clear hb); (try clear hb2); (try clear hk); (try clear hi)))
            go_ret
            exact ⟨by first | rfl | (simp [errW_none, errW_some, erT_no, erV_no, erT_at, erV_at] <;> rfl) | (simp [*, errW_none, errW_some, erT_no, erV_no, erT_at, erV_at] <;> rfl), by repeat (first | (with_reducible first | exact HB.out | apply below_alloc | apply pw_below_drewN | apply below_drew1) | exact HB.out)⟩
          · replace c4 := Bool.eq_false_iff.mpr c4
            subst c4
            have H1 : (cavillaw01_Code.l0 k1 (some q193) (wrap64 (x3_1 + 1))) = some r := by rw [if_neg (show ¬ (false = true) by decide)] at H; exact H
            clear H
            have H := H1
            clear H1
            have H' := Aside0.mk H
            clear H
            have CA3 := fun W => errors_Is.calls (some q193) (some (Er.no x3_1)) false W A3.out
            try simp only [errW_none, errW_some, erT_no, erV_no, erT_at, erV_at] at CA3
            go_wp2_with (first | (go_at_call 44; (with_reducible refine (CA3 _).mono ?_); rintro e w6 ⟨rfl, hb⟩; have n0_ := Aside0.mk (below_step (by repeat (first | (with_reducible first | exact HB.out | apply below_alloc | apply pw_below_drewN | apply below_drew1) | exact HB.out)) hb); clear HB; have HB := n0_; clear n0_; (try clear hb); (try clear hb2); (try clear hk); (try clear hi)))
            go_roundg k1
            case measure => have := HK1.out; omega
            case rel => exact ⟨(wrap64 (x3_1 + 1)), (by first | rfl | (simp; done) | (simp [*]; done)), H', ⟨by have := HK1.out; omega⟩, ⟨by repeat (first | (with_reducible first | exact HB.out | apply below_alloc | apply pw_below_drewN | apply below_drew1) | exact HB.out)⟩⟩
        · rw [if_neg c2] at H
          have c2b0 : decide (x3_1 ≤ 25) = false := decide_eq_false c2
          clear c2
          obtain rfl := Option.some.inj H
          go_wp2
          go_ret
          exact ⟨by first | rfl | (simp [errW_none, errW_some, erT_no, erV_no, erT_at, erV_at] <;> rfl) | (simp [*, errW_none, errW_some, erT_no, erV_no, erT_at, erV_at] <;> rfl), by repeat (first | (with_reducible first | exact HB.out | apply below_alloc | apply pw_below_drewN | apply below_drew1) | exact HB.out)⟩

/-! ### bytes_Equal: function 33 -/
def bytes_Equal.f (l0 : List Int) (l1 : List Int) : Option (Bool) := some ((strOfNums l0).toList == (strOfNums l1).toList)
set_option maxHeartbeats 8000000 in
set_option maxRecDepth 100000 in
theorem bytes_Equal.calls (A0 : Option Addr) (c0 : Nat) (l0 : List Int) (A1 : Option Addr) (c1 : Nat) (l1 : List Int) (r : Bool) (w : World) (hr0 : Kd.C (Kd.int .u8) w A0 l0.length l0) (hc0 : l0.length ≤ c0) (hr1 : Kd.C (Kd.int .u8) w A1 l1.length l1) (hc1 : l1.length ≤ c1) (h : bytes_Equal.f l0 l1 = some r) :
    Calls Try.prog 33 #[.slice A0 l0.length c0, .slice A1 l1.length c1] w fun e w' => e = .returned (.bool r) ∧ Drawn0 w w' := by
  have HR0 := Aside0.mk hr0
  have HC0 := Aside0.mk hc0
  clear hr0 hc0
  have HR1 := Aside0.mk hr1
  have HC1 := Aside0.mk hc1
  clear hr1 hc1
  have H : (some ((strOfNums l0).toList == (strOfNums l1).toList)) = some r := h
  clear h
  obtain rfl := Option.some.inj H
  have hcv3 := Kd.C_string (P := Try.prog) (A := A0) (c := c0) Try.underlying22 Try.underlying5 Try.underlying9 HR0.out
  have hcv4 := Kd.C_string (P := Try.prog) (A := A1) (c := c1) Try.underlying22 Try.underlying5 Try.underlying9 HR1.out
  go_enter Try.func33, Try.ntmps33
  go_wp2
  go_ret
  exact ⟨by first | rfl | (simp; done) | (simp [*]; done), by repeat (first | exact Drawn0.refl _ | apply Drawn0.step)⟩

end Go.Proofs.Ytnpgadfoohjlnaa.QB
