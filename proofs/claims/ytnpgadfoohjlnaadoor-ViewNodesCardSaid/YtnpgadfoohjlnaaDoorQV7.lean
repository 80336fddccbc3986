/- Where a Lean function of this text answers, the Go function of its name comes to that answer: no other condition. Written by a program of this session out of the translation; Lean checks it. -/
import Derived.Test.YtnpgadfoohjlnaaDoorQV0
namespace Go.Proofs.YtnpgadfoohjlnaaDoor.QV
open Go.RowKit Go.Proofs.YtnpgadfoohjlnaaDoorW.PrintWords Go.Proofs.YtnpgadfoohjlnaaDoorW.PrintLast Go.Proofs.YtnpgadfoohjlnaaDoorW.PrintMore Go.Proofs.YtnpgadfoohjlnaaDoorW.PrintX
attribute [local go_sem] max2_int min2_int max_two min_two max_three min_three max_four min_four   -- for this text's walks alone
set_option linter.unusedVariables false
set_option linter.unusedSimpArgs false

/-! ### view_File_Node: function 40 -/
def view_File_Node.f (l0 : List (S100)) (a1 : Int) : Option (Int × Int × Int × List Int) := if 0 < (l0.length : Int) then (if a1 < 0 then (some (0, 0, 0, ([] : List Int))) else (if a1 ≥ (((rd_T100 l0 0).f2.f0).length : Int) then (some (0, 0, 0, ([] : List Int))) else (if 0 ≤ a1 then (if a1 < (((rd_T100 l0 0).f2.f0).length : Int) then (some ((rd_T33 ((rd_T100 l0 0).f2.f0) a1).f0, (rd_T33 ((rd_T100 l0 0).f2.f0) a1).f1, (rd_T33 ((rd_T100 l0 0).f2.f0) a1).f2, (rd_T33 ((rd_T100 l0 0).f2.f0) a1).f3)) else (none)) else (none)))) else (none)
set_option maxHeartbeats 8000000 in
set_option maxRecDepth 100000 in
theorem view_File_Node.calls (P0_ : Nat → Prop) (A0 : Option Addr) (c0 : Nat) (l0 : List (S100)) (a1 : Int) (r1 : Int) (r2 : Int) (r3 : Int) (r4 : List Int) (w : World) (hs0 : Kd.V k100 100 w w.heap.size (fun k_ => P0_ k_) (.slice A0 l0.length c0) l0) (h : view_File_Node.f l0 a1 = some (r1, r2, r3, r4)) :
  Calls Tryd.prog 40 #[.pointer A0, .int .i64 a1] w fun e w' => ∃ v3_ : Value, e = .returned (.agg #[.int .i64 r1, .int .i64 r2, .int .i64 r3, v3_]) ∧ Kd.V (Kd.int .i64) 3 w' w.heap.size (fun k_ => (P0_ k_ ∨ w.heap.size ≤ k_)) v3_ r4 ∧ Below w.heap.size w w' := by
 have hu33 := Tryd.underlying33
 have HO0 := Aside0.mk (show Kd.V k100 100 w w.heap.size (fun k_ => (P0_ k_ ∨ w.heap.size ≤ k_)) (.slice A0 l0.length c0) l0 from Kd.V_mono hs0 (fun k_ hk => .inl hk))
 have HB := Aside0.mk (Below.refl w.heap.size w)
 have H : (if 0 < (l0.length : Int) then (if a1 < 0 then (some (0, 0, 0, ([] : List Int))) else (if a1 ≥ (((rd_T100 l0 0).f2.f0).length : Int) then (some (0, 0, 0, ([] : List Int))) else (if 0 ≤ a1 then (if a1 < (((rd_T100 l0 0).f2.f0).length : Int) then (some ((rd_T33 ((rd_T100 l0 0).f2.f0) a1).f0, (rd_T33 ((rd_T100 l0 0).f2.f0) a1).f1, (rd_T33 ((rd_T100 l0 0).f2.f0) a1).f2, (rd_T33 ((rd_T100 l0 0).f2.f0) a1).f3)) else (none)) else (none)))) else (none)) = some (r1, r2, r3, r4) := h
 clear h
 by_cases c3 : 0 < (l0.length : Int)
 ·rw [if_pos c3] at H
  have c3b0 : decide (0 < (l0.length : Int)) = true := decide_eq_true c3
  have c3b1 : decide (0 < l0.length) = true := decide_eq_true (by omega)
  clear c3
  by_cases c4 : a1 < 0
  ·rw [if_pos c4] at H
   have c4b0 : decide (a1 < 0) = true := decide_eq_true c4
   clear c4
   simp only [Option.some.injEq, Prod.mk.injEq] at H
   obtain ⟨rfl, rfl, rfl, rfl⟩ := H
   have p152 : 0 ≤ (0 : Int) := (by omega)
   have q152 : 0 < (l0.length : Int) := of_dec
   obtain ⟨ad152, A152_0, c152_0, A152_1, c152_1, A152_2, c152_2, e152, hx152_0, hx152_1, hx152_2, hl152_0, hi152_0, hl152_1, hi152_1, hl152_2, hi152_2⟩ := at_T100 (Kd.V_reads' HO0.out).2.2 0 p152 q152
   cases e152
   obtain ⟨ce152, hce152, hMe152, hcc152⟩ := Kd.V_get HO0.out z100 0 p152 (by first | exact q152 | exact of_dec | (have e_ := (Kd.V_reads' HO0.out).1; omega))
   obtain ⟨ua152_0, uc152_0, ua152_1, uc152_1, ua152_2, uc152_2, rfl, ul152_0, ge152_0, ul152_1, ge152_1, ul152_2, ge152_2⟩ := k100_openF hMe152
   have hv152_0 := hcc152 0 _ rfl
   rw [Nat.add_zero] at hv152_0
   replace hv152_0 := Option.some.inj (hv152_0.symm.trans hx152_0)
   injection hv152_0 with hva_ hvn_ hvc_
   rw [hva_] at ge152_0
   rw [hvc_] at ul152_0
   have HL152_0 := Aside0.mk (show Kd.V (Kd.int .u8) 5 _ w.heap.size _ _ ((rd_T100 l0 0).f0) from Kd.V_mk ul152_0 ge152_0)
   clear hva_ hvn_ hvc_ ge152_0 ul152_0
   have hv152_1 := hcc152 1 _ rfl
   rw [add_field _ _ 1 (by omega)] at hv152_1
   replace hv152_1 := Option.some.inj (hv152_1.symm.trans hx152_1)
   injection hv152_1 with hva_ hvn_ hvc_
   rw [hva_] at ge152_1
   rw [hvc_] at ul152_1
   have HL152_1 := Aside0.mk (show Kd.V k103 103 _ w.heap.size _ _ ((rd_T100 l0 0).f1) from Kd.V_mk ul152_1 ge152_1)
   clear hva_ hvn_ hvc_ ge152_1 ul152_1
   have hv152_2 := hcc152 2 _ rfl
   rw [add_field _ _ 2 (by omega)] at hv152_2
   replace hv152_2 := Option.some.inj (hv152_2.symm.trans hx152_2)
   injection hv152_2 with hva_ hvn_ hvc_
   rw [hva_] at ge152_2
   rw [hvc_] at ul152_2
   have HL152_2 := Aside0.mk (show Kd.V k33 33 _ w.heap.size _ _ ((rd_T100 l0 0).f2.f0) from Kd.V_mk ul152_2 ge152_2)
   clear hva_ hvn_ hvc_ ge152_2 ul152_2
   clear hcc152 hce152
   have qi152 : (0 < l0.length) = True := eq_true (by omega)
   (try rw [show ((0 : Int)).toNat = 0 from rfl] at hx152_0)
   (try rw [show 0 * 3 = 0 from rfl] at hx152_0)
   (try rw [Addr.add_zero'] at hx152_0)
   (try rw [show ((0 : Int)).toNat = 0 from rfl] at hx152_1)
   (try rw [show 0 * 3 = 0 from rfl] at hx152_1)
   (try rw [Addr.add_zero'] at hx152_1)
   (try rw [show ((0 : Int)).toNat = 0 from rfl] at hx152_2)
   (try rw [show 0 * 3 = 0 from rfl] at hx152_2)
   (try rw [Addr.add_zero'] at hx152_2)
   have HR152_0 := Aside0.mk hi152_0
   have HC152_0 := Aside0.mk hl152_0
   clear hi152_0 hl152_0
   have HR152_1 := Aside0.mk hi152_1
   have HC152_1 := Aside0.mk hl152_1
   clear hi152_1 hl152_1
   have HR152_2 := Aside0.mk hi152_2
   have HC152_2 := Aside0.mk hl152_2
   clear hi152_2 hl152_2
   replace p152 := eq_true p152
   replace q152 := eq_true q152
   go_enter Tryd.func40, Tryd.ntmps40
   go_wp2_with (first | ((with_reducible refine gate_dst (N := 4) rfl ?_); (try (refine gate_guard (by rfl) ?_; dsimp only)); refine box_event ?hg (N := 4) ?hd (cs := #[.int .i64 0, .int .i64 0, .int .i64 0, .slice none 0 0]) (t := 33) ?hr ?_; (case hd => rfl); (case hg => rfl); (case hr => first | (go_simp; done) | (go_simp; rfl)); intro gb153 hg w5 hbox hb; have n0_ := Aside0.mk (Kd.V_below (Kd.V_elderB (go_V HO0.out) gb153 (Nat.le_of_eq hg.symm)) hb); have n1_ := Aside0.mk (Kd.V_below (Kd.V_elderB (go_V HL152_0.out) gb153 (Nat.le_of_eq hg.symm)) hb); have n2_ := Aside0.mk (Kd.V_below (Kd.V_elderB (go_V HL152_1.out) gb153 (Nat.le_of_eq hg.symm)) hb); have n3_ := Aside0.mk (Kd.V_below (Kd.V_elderB (go_V HL152_2.out) gb153 (Nat.le_of_eq hg.symm)) hb); have n4_ := Aside0.mk (Kd.C_below (by repeat (first | (with_reducible exact HR152_0.out) | (with_reducible refine Kd.C_alloc ?_ _) | (with_reducible refine Kd.C_drewN ?_ _) | (with_reducible refine Kd.C_drew ?_) | exact HR152_0.out)) hb); have n5_ := Aside0.mk (Kd.C_below (by repeat (first | (with_reducible exact HR152_1.out) | (with_reducible refine Kd.C_alloc ?_ _) | (with_reducible refine Kd.C_drewN ?_ _) | (with_reducible refine Kd.C_drew ?_) | exact HR152_1.out)) hb); have n6_ := Aside0.mk (Kd.C_below (by repeat (first | (with_reducible exact HR152_2.out) | (with_reducible refine Kd.C_alloc ?_ _) | (with_reducible refine Kd.C_drewN ?_ _) | (with_reducible refine Kd.C_drew ?_) | exact HR152_2.out)) hb); have n7_ := Aside0.mk (below_step (go_b HB.out) hb); have n8_ := Aside0.mk (hbox); have n9_ := Aside0.mk ((by rw [hg]; exact (below_size (go_b HB.out)) : w.heap.size ≤ gb153)); have n10_ := Aside0.mk ((by rw [hg]; exact (below_size (go_b HB.out)) : w.heap.size ≤ gb153)); clear HO0; clear HL152_0; clear HL152_1; clear HL152_2; clear HR152_0; clear HR152_1; clear HR152_2; clear HB; have HO0 := n0_; have HL152_0 := n1_; have HL152_1 := n2_; have HL152_2 := n3_; have HR152_0 := n4_; have HR152_1 := n5_; have HR152_2 := n6_; have HB := n7_; have BK153 := n8_; have GW153 := n9_; have GE153 := n10_; clear n0_ n1_ n2_ n3_ n4_ n5_ n6_ n7_ n8_ n9_ n10_; clear hb hbox hg; have hcz6_0 : w5.cell? ⟨gb153, 0, none⟩ = some (.int .i64 0) := (blk_cell BK153.out 0).trans rfl; have hcz6_1 : w5.cell? ⟨gb153, 1, none⟩ = some (.int .i64 0) := (blk_cell BK153.out 1).trans rfl; have hcz6_2 : w5.cell? ⟨gb153, 2, none⟩ = some (.int .i64 0) := (blk_cell BK153.out 2).trans rfl; have hcz6_3 : w5.cell? ⟨gb153, 3, none⟩ = some (.slice none 0 0) := (blk_cell BK153.out 3).trans rfl; have hfz6_0 := blk_frozen BK153.out 0; have hfz6_1 := blk_frozen BK153.out 1; have hfz6_2 := blk_frozen BK153.out 2; have hfz6_3 := blk_frozen BK153.out 3))
   refine bodyPost_ret (results_cell_row rfl _ _ gb153 33 #[.int .i64 0, .int .i64 0, .int .i64 0, .slice none 0 0] (0, 0) _ rfl (by (with_reducible repeat (first | refine blk_drewN ?_ _ | refine blk_drew ?_ | refine blk_alloc ?_ _)); refine blk_put (cs := #[.int .i64 0, .int .i64 0, .int .i64 0, .slice none 0 0]) ?_ 3 _ rfl; refine blk_put (cs := #[.int .i64 0, .int .i64 0, .int .i64 0, .slice none 0 0]) ?_ 2 _ rfl; refine blk_put (cs := #[.int .i64 0, .int .i64 0, .int .i64 0, .slice none 0 0]) ?_ 1 _ rfl; refine blk_put (cs := #[.int .i64 0, .int .i64 0, .int .i64 0, .slice none 0 0]) ?_ 0 _ rfl; (with_reducible repeat (first | refine blk_drewN ?_ _ | refine blk_drew ?_ | refine blk_alloc ?_ _)); exact BK153.out) Tryd.underlying33 rfl (by kernel_rfl)) rfl ?_
   exact ⟨_, by first | rfl | (simp [*, errW_none, errW_some, erT_no, erV_no, erT_at, erV_at] <;> rfl), Kd.V_nil _ _ _ _ _, by repeat (first | (with_reducible first | exact HB.out | apply below_alloc | apply pw_below_drewN | apply below_drew1 | refine below_set ?_ GE153.out) | exact HB.out)⟩
  ·rw [if_neg c4] at H
   have c4b0 : decide (a1 < 0) = false := decide_eq_false c4
   clear c4
   by_cases c7 : a1 ≥ (((rd_T100 l0 0).f2.f0).length : Int)
   ·rw [if_pos c7] at H
    have c7b0 : decide ((((rd_T100 l0 0).f2.f0).length : Int) ≤ a1) = true := decide_eq_true c7
    clear c7
    simp only [Option.some.injEq, Prod.mk.injEq] at H
    obtain ⟨rfl, rfl, rfl, rfl⟩ := H
    have p152 : 0 ≤ (0 : Int) := (by omega)
    have q152 : 0 < (l0.length : Int) := of_dec
    obtain ⟨ad152, A152_0, c152_0, A152_1, c152_1, A152_2, c152_2, e152, hx152_0, hx152_1, hx152_2, hl152_0, hi152_0, hl152_1, hi152_1, hl152_2, hi152_2⟩ := at_T100 (Kd.V_reads' HO0.out).2.2 0 p152 q152
    cases e152
    obtain ⟨ce152, hce152, hMe152, hcc152⟩ := Kd.V_get HO0.out z100 0 p152 (by first | exact q152 | exact of_dec | (have e_ := (Kd.V_reads' HO0.out).1; omega))
    obtain ⟨ua152_0, uc152_0, ua152_1, uc152_1, ua152_2, uc152_2, rfl, ul152_0, ge152_0, ul152_1, ge152_1, ul152_2, ge152_2⟩ := k100_openF hMe152
    have hv152_0 := hcc152 0 _ rfl
    rw [Nat.add_zero] at hv152_0
    replace hv152_0 := Option.some.inj (hv152_0.symm.trans hx152_0)
    injection hv152_0 with hva_ hvn_ hvc_
    rw [hva_] at ge152_0
    rw [hvc_] at ul152_0
    have HL152_0 := Aside0.mk (show Kd.V (Kd.int .u8) 5 _ w.heap.size _ _ ((rd_T100 l0 0).f0) from Kd.V_mk ul152_0 ge152_0)
    clear hva_ hvn_ hvc_ ge152_0 ul152_0
    have hv152_1 := hcc152 1 _ rfl
    rw [add_field _ _ 1 (by omega)] at hv152_1
    replace hv152_1 := Option.some.inj (hv152_1.symm.trans hx152_1)
    injection hv152_1 with hva_ hvn_ hvc_
    rw [hva_] at ge152_1
    rw [hvc_] at ul152_1
    have HL152_1 := Aside0.mk (show Kd.V k103 103 _ w.heap.size _ _ ((rd_T100 l0 0).f1) from Kd.V_mk ul152_1 ge152_1)
    clear hva_ hvn_ hvc_ ge152_1 ul152_1
    have hv152_2 := hcc152 2 _ rfl
    rw [add_field _ _ 2 (by omega)] at hv152_2
    replace hv152_2 := Option.some.inj (hv152_2.symm.trans hx152_2)
    injection hv152_2 with hva_ hvn_ hvc_
    rw [hva_] at ge152_2
    rw [hvc_] at ul152_2
    have HL152_2 := Aside0.mk (show Kd.V k33 33 _ w.heap.size _ _ ((rd_T100 l0 0).f2.f0) from Kd.V_mk ul152_2 ge152_2)
    clear hva_ hvn_ hvc_ ge152_2 ul152_2
    clear hcc152 hce152
    have qi152 : (0 < l0.length) = True := eq_true (by omega)
    (try rw [show ((0 : Int)).toNat = 0 from rfl] at hx152_0)
    (try rw [show 0 * 3 = 0 from rfl] at hx152_0)
    (try rw [Addr.add_zero'] at hx152_0)
    (try rw [show ((0 : Int)).toNat = 0 from rfl] at hx152_1)
    (try rw [show 0 * 3 = 0 from rfl] at hx152_1)
    (try rw [Addr.add_zero'] at hx152_1)
    (try rw [show ((0 : Int)).toNat = 0 from rfl] at hx152_2)
    (try rw [show 0 * 3 = 0 from rfl] at hx152_2)
    (try rw [Addr.add_zero'] at hx152_2)
    have HR152_0 := Aside0.mk hi152_0
    have HC152_0 := Aside0.mk hl152_0
    clear hi152_0 hl152_0
    have HR152_1 := Aside0.mk hi152_1
    have HC152_1 := Aside0.mk hl152_1
    clear hi152_1 hl152_1
    have HR152_2 := Aside0.mk hi152_2
    have HC152_2 := Aside0.mk hl152_2
    clear hi152_2 hl152_2
    replace p152 := eq_true p152
    replace q152 := eq_true q152
    go_enter Tryd.func40, Tryd.ntmps40
    go_wp2_with (first | ((with_reducible refine gate_dst (N := 4) rfl ?_); (try (refine gate_guard (by rfl) ?_; dsimp only)); refine box_event ?hg (N := 4) ?hd (cs := #[.int .i64 0, .int .i64 0, .int .i64 0, .slice none 0 0]) (t := 33) ?hr ?_; (case hd => rfl); (case hg => rfl); (case hr => first | (go_simp; done) | (go_simp; rfl)); intro gb153 hg w8 hbox hb; have n0_ := Aside0.mk (Kd.V_below (Kd.V_elderB (go_V HO0.out) gb153 (Nat.le_of_eq hg.symm)) hb); have n1_ := Aside0.mk (Kd.V_below (Kd.V_elderB (go_V HL152_0.out) gb153 (Nat.le_of_eq hg.symm)) hb); have n2_ := Aside0.mk (Kd.V_below (Kd.V_elderB (go_V HL152_1.out) gb153 (Nat.le_of_eq hg.symm)) hb); have n3_ := Aside0.mk (Kd.V_below (Kd.V_elderB (go_V HL152_2.out) gb153 (Nat.le_of_eq hg.symm)) hb); have n4_ := Aside0.mk (Kd.C_below (by repeat (first | (with_reducible exact HR152_0.out) | (with_reducible refine Kd.C_alloc ?_ _) | (with_reducible refine Kd.C_drewN ?_ _) | (with_reducible refine Kd.C_drew ?_) | exact HR152_0.out)) hb); have n5_ := Aside0.mk (Kd.C_below (by repeat (first | (with_reducible exact HR152_1.out) | (with_reducible refine Kd.C_alloc ?_ _) | (with_reducible refine Kd.C_drewN ?_ _) | (with_reducible refine Kd.C_drew ?_) | exact HR152_1.out)) hb); have n6_ := Aside0.mk (Kd.C_below (by repeat (first | (with_reducible exact HR152_2.out) | (with_reducible refine Kd.C_alloc ?_ _) | (with_reducible refine Kd.C_drewN ?_ _) | (with_reducible refine Kd.C_drew ?_) | exact HR152_2.out)) hb); have n7_ := Aside0.mk (below_step (go_b HB.out) hb); have n8_ := Aside0.mk (hbox); have n9_ := Aside0.mk ((by rw [hg]; exact (below_size (go_b HB.out)) : w.heap.size ≤ gb153)); have n10_ := Aside0.mk ((by rw [hg]; exact (below_size (go_b HB.out)) : w.heap.size ≤ gb153)); clear HO0; clear HL152_0; clear HL152_1; clear HL152_2; clear HR152_0; clear HR152_1; clear HR152_2; clear HB; have HO0 := n0_; have HL152_0 := n1_; have HL152_1 := n2_; have HL152_2 := n3_; have HR152_0 := n4_; have HR152_1 := n5_; have HR152_2 := n6_; have HB := n7_; have BK153 := n8_; have GW153 := n9_; have GE153 := n10_; clear n0_ n1_ n2_ n3_ n4_ n5_ n6_ n7_ n8_ n9_ n10_; clear hb hbox hg; have p154 : 0 ≤ (0 : Int) := (by omega); have q154 : 0 < (l0.length : Int) := of_dec; obtain ⟨ad154, A154_0, c154_0, A154_1, c154_1, A154_2, c154_2, e154, hx154_0, hx154_1, hx154_2, hl154_0, hi154_0, hl154_1, hi154_1, hl154_2, hi154_2⟩ := at_T100 (Kd.V_reads' HO0.out).2.2 0 p154 q154; obtain rfl : ad152 = ad154 := (by injection e154); obtain ⟨ce154, hce154, hMe154, hcc154⟩ := Kd.V_get HO0.out z100 0 p154 (by first | exact q154 | exact of_dec | (have e_ := (Kd.V_reads' HO0.out).1; omega)); obtain ⟨ua154_0, uc154_0, ua154_1, uc154_1, ua154_2, uc154_2, rfl, ul154_0, ge154_0, ul154_1, ge154_1, ul154_2, ge154_2⟩ := k100_openF hMe154; have hv154_0 := hcc154 0 _ rfl; rw [Nat.add_zero] at hv154_0; replace hv154_0 := Option.some.inj (hv154_0.symm.trans hx154_0); injection hv154_0 with hva_ hvn_ hvc_; rw [hva_] at ge154_0; rw [hvc_] at ul154_0; have HL154_0 := Aside0.mk (show Kd.V (Kd.int .u8) 5 _ w.heap.size _ _ ((rd_T100 l0 0).f0) from Kd.V_mk ul154_0 ge154_0); clear hva_ hvn_ hvc_ ge154_0 ul154_0; have hv154_1 := hcc154 1 _ rfl; rw [add_field _ _ 1 (by omega)] at hv154_1; replace hv154_1 := Option.some.inj (hv154_1.symm.trans hx154_1); injection hv154_1 with hva_ hvn_ hvc_; rw [hva_] at ge154_1; rw [hvc_] at ul154_1; have HL154_1 := Aside0.mk (show Kd.V k103 103 _ w.heap.size _ _ ((rd_T100 l0 0).f1) from Kd.V_mk ul154_1 ge154_1); clear hva_ hvn_ hvc_ ge154_1 ul154_1; have hv154_2 := hcc154 2 _ rfl; rw [add_field _ _ 2 (by omega)] at hv154_2; replace hv154_2 := Option.some.inj (hv154_2.symm.trans hx154_2); injection hv154_2 with hva_ hvn_ hvc_; rw [hva_] at ge154_2; rw [hvc_] at ul154_2; have HL154_2 := Aside0.mk (show Kd.V k33 33 _ w.heap.size _ _ ((rd_T100 l0 0).f2.f0) from Kd.V_mk ul154_2 ge154_2); clear hva_ hvn_ hvc_ ge154_2 ul154_2; clear hcc154 hce154; have qi154 : (0 < l0.length) = True := eq_true (by omega); (try rw [show ((0 : Int)).toNat = 0 from rfl] at hx154_0); (try rw [show 0 * 3 = 0 from rfl] at hx154_0); (try rw [Addr.add_zero'] at hx154_0); (try rw [show ((0 : Int)).toNat = 0 from rfl] at hx154_1); (try rw [show 0 * 3 = 0 from rfl] at hx154_1); (try rw [Addr.add_zero'] at hx154_1); (try rw [show ((0 : Int)).toNat = 0 from rfl] at hx154_2); (try rw [show 0 * 3 = 0 from rfl] at hx154_2); (try rw [Addr.add_zero'] at hx154_2); have HR154_0 := Aside0.mk hi154_0; have HC154_0 := Aside0.mk hl154_0; clear hi154_0 hl154_0; have HR154_1 := Aside0.mk hi154_1; have HC154_1 := Aside0.mk hl154_1; clear hi154_1 hl154_1; have HR154_2 := Aside0.mk hi154_2; have HC154_2 := Aside0.mk hl154_2; clear hi154_2 hl154_2; replace p154 := eq_true p154; replace q154 := eq_true q154; have hcz9_0 : w8.cell? ⟨gb153, 0, none⟩ = some (.int .i64 0) := (blk_cell BK153.out 0).trans rfl; have hcz9_1 : w8.cell? ⟨gb153, 1, none⟩ = some (.int .i64 0) := (blk_cell BK153.out 1).trans rfl; have hcz9_2 : w8.cell? ⟨gb153, 2, none⟩ = some (.int .i64 0) := (blk_cell BK153.out 2).trans rfl; have hcz9_3 : w8.cell? ⟨gb153, 3, none⟩ = some (.slice none 0 0) := (blk_cell BK153.out 3).trans rfl; have hfz9_0 := blk_frozen BK153.out 0; have hfz9_1 := blk_frozen BK153.out 1; have hfz9_2 := blk_frozen BK153.out 2; have hfz9_3 := blk_frozen BK153.out 3))
    refine bodyPost_ret (results_cell_row rfl _ _ gb153 33 #[.int .i64 0, .int .i64 0, .int .i64 0, .slice none 0 0] (0, 0) _ rfl (by (with_reducible repeat (first | refine blk_drewN ?_ _ | refine blk_drew ?_ | refine blk_alloc ?_ _)); refine blk_put (cs := #[.int .i64 0, .int .i64 0, .int .i64 0, .slice none 0 0]) ?_ 3 _ rfl; refine blk_put (cs := #[.int .i64 0, .int .i64 0, .int .i64 0, .slice none 0 0]) ?_ 2 _ rfl; refine blk_put (cs := #[.int .i64 0, .int .i64 0, .int .i64 0, .slice none 0 0]) ?_ 1 _ rfl; refine blk_put (cs := #[.int .i64 0, .int .i64 0, .int .i64 0, .slice none 0 0]) ?_ 0 _ rfl; (with_reducible repeat (first | refine blk_drewN ?_ _ | refine blk_drew ?_ | refine blk_alloc ?_ _)); exact BK153.out) Tryd.underlying33 rfl (by kernel_rfl)) rfl ?_
    exact ⟨_, by first | rfl | (simp [*, errW_none, errW_some, erT_no, erV_no, erT_at, erV_at] <;> rfl), Kd.V_nil _ _ _ _ _, by repeat (first | (with_reducible first | exact HB.out | apply below_alloc | apply pw_below_drewN | apply below_drew1 | refine below_set ?_ GE153.out) | exact HB.out)⟩
   ·rw [if_neg c7] at H
    have c7b0 : decide ((((rd_T100 l0 0).f2.f0).length : Int) ≤ a1) = false := decide_eq_false c7
    clear c7
    by_cases c10 : 0 ≤ a1
    ·rw [if_pos c10] at H
     have c10b0 : decide (0 ≤ a1) = true := decide_eq_true c10
     clear c10
     by_cases c11 : a1 < (((rd_T100 l0 0).f2.f0).length : Int)
     ·rw [if_pos c11] at H
      have c11b0 : decide (a1 < (((rd_T100 l0 0).f2.f0).length : Int)) = true := decide_eq_true c11
      clear c11
      simp only [Option.some.injEq, Prod.mk.injEq] at H
      obtain ⟨rfl, rfl, rfl, rfl⟩ := H
      have p152 : 0 ≤ (0 : Int) := (by omega)
      have q152 : 0 < (l0.length : Int) := of_dec
      obtain ⟨ad152, A152_0, c152_0, A152_1, c152_1, A152_2, c152_2, e152, hx152_0, hx152_1, hx152_2, hl152_0, hi152_0, hl152_1, hi152_1, hl152_2, hi152_2⟩ := at_T100 (Kd.V_reads' HO0.out).2.2 0 p152 q152
      cases e152
      obtain ⟨ce152, hce152, hMe152, hcc152⟩ := Kd.V_get HO0.out z100 0 p152 (by first | exact q152 | exact of_dec | (have e_ := (Kd.V_reads' HO0.out).1; omega))
      obtain ⟨ua152_0, uc152_0, ua152_1, uc152_1, ua152_2, uc152_2, rfl, ul152_0, ge152_0, ul152_1, ge152_1, ul152_2, ge152_2⟩ := k100_openF hMe152
      have hv152_0 := hcc152 0 _ rfl
      rw [Nat.add_zero] at hv152_0
      replace hv152_0 := Option.some.inj (hv152_0.symm.trans hx152_0)
      injection hv152_0 with hva_ hvn_ hvc_
      rw [hva_] at ge152_0
      rw [hvc_] at ul152_0
      have HL152_0 := Aside0.mk (show Kd.V (Kd.int .u8) 5 _ w.heap.size _ _ ((rd_T100 l0 0).f0) from Kd.V_mk ul152_0 ge152_0)
      clear hva_ hvn_ hvc_ ge152_0 ul152_0
      have hv152_1 := hcc152 1 _ rfl
      rw [add_field _ _ 1 (by omega)] at hv152_1
      replace hv152_1 := Option.some.inj (hv152_1.symm.trans hx152_1)
      injection hv152_1 with hva_ hvn_ hvc_
      rw [hva_] at ge152_1
      rw [hvc_] at ul152_1
      have HL152_1 := Aside0.mk (show Kd.V k103 103 _ w.heap.size _ _ ((rd_T100 l0 0).f1) from Kd.V_mk ul152_1 ge152_1)
      clear hva_ hvn_ hvc_ ge152_1 ul152_1
      have hv152_2 := hcc152 2 _ rfl
      rw [add_field _ _ 2 (by omega)] at hv152_2
      replace hv152_2 := Option.some.inj (hv152_2.symm.trans hx152_2)
      injection hv152_2 with hva_ hvn_ hvc_
      rw [hva_] at ge152_2
      rw [hvc_] at ul152_2
      have HL152_2 := Aside0.mk (show Kd.V k33 33 _ w.heap.size _ _ ((rd_T100 l0 0).f2.f0) from Kd.V_mk ul152_2 ge152_2)
      clear hva_ hvn_ hvc_ ge152_2 ul152_2
      clear hcc152 hce152
      have qi152 : (0 < l0.length) = True := eq_true (by omega)
      (try rw [show ((0 : Int)).toNat = 0 from rfl] at hx152_0)
      (try rw [show 0 * 3 = 0 from rfl] at hx152_0)
      (try rw [Addr.add_zero'] at hx152_0)
      (try rw [show ((0 : Int)).toNat = 0 from rfl] at hx152_1)
      (try rw [show 0 * 3 = 0 from rfl] at hx152_1)
      (try rw [Addr.add_zero'] at hx152_1)
      (try rw [show ((0 : Int)).toNat = 0 from rfl] at hx152_2)
      (try rw [show 0 * 3 = 0 from rfl] at hx152_2)
      (try rw [Addr.add_zero'] at hx152_2)
      have HR152_0 := Aside0.mk hi152_0
      have HC152_0 := Aside0.mk hl152_0
      clear hi152_0 hl152_0
      have HR152_1 := Aside0.mk hi152_1
      have HC152_1 := Aside0.mk hl152_1
      clear hi152_1 hl152_1
      have HR152_2 := Aside0.mk hi152_2
      have HC152_2 := Aside0.mk hl152_2
      clear hi152_2 hl152_2
      replace p152 := eq_true p152
      replace q152 := eq_true q152
      go_enter Tryd.func40, Tryd.ntmps40
      go_wp2_with (first | ((with_reducible refine gate_dst (N := 4) rfl ?_); (try (refine gate_guard (by rfl) ?_; dsimp only)); refine box_event ?hg (N := 4) ?hd (cs := #[.int .i64 0, .int .i64 0, .int .i64 0, .slice none 0 0]) (t := 33) ?hr ?_; (case hd => rfl); (case hg => rfl); (case hr => first | (go_simp; done) | (go_simp; rfl)); intro gb153 hg w12 hbox hb; have n0_ := Aside0.mk (Kd.V_below (Kd.V_elderB (go_V HO0.out) gb153 (Nat.le_of_eq hg.symm)) hb); have n1_ := Aside0.mk (Kd.V_below (Kd.V_elderB (go_V HL152_0.out) gb153 (Nat.le_of_eq hg.symm)) hb); have n2_ := Aside0.mk (Kd.V_below (Kd.V_elderB (go_V HL152_1.out) gb153 (Nat.le_of_eq hg.symm)) hb); have n3_ := Aside0.mk (Kd.V_below (Kd.V_elderB (go_V HL152_2.out) gb153 (Nat.le_of_eq hg.symm)) hb); have n4_ := Aside0.mk (Kd.C_below (by repeat (first | (with_reducible exact HR152_0.out) | (with_reducible refine Kd.C_alloc ?_ _) | (with_reducible refine Kd.C_drewN ?_ _) | (with_reducible refine Kd.C_drew ?_) | exact HR152_0.out)) hb); have n5_ := Aside0.mk (Kd.C_below (by repeat (first | (with_reducible exact HR152_1.out) | (with_reducible refine Kd.C_alloc ?_ _) | (with_reducible refine Kd.C_drewN ?_ _) | (with_reducible refine Kd.C_drew ?_) | exact HR152_1.out)) hb); have n6_ := Aside0.mk (Kd.C_below (by repeat (first | (with_reducible exact HR152_2.out) | (with_reducible refine Kd.C_alloc ?_ _) | (with_reducible refine Kd.C_drewN ?_ _) | (with_reducible refine Kd.C_drew ?_) | exact HR152_2.out)) hb); have n7_ := Aside0.mk (below_step (go_b HB.out) hb); have n8_ := Aside0.mk (hbox); have n9_ := Aside0.mk ((by rw [hg]; exact (below_size (go_b HB.out)) : w.heap.size ≤ gb153)); have n10_ := Aside0.mk ((by rw [hg]; exact (below_size (go_b HB.out)) : w.heap.size ≤ gb153)); clear HO0; clear HL152_0; clear HL152_1; clear HL152_2; clear HR152_0; clear HR152_1; clear HR152_2; clear HB; have HO0 := n0_; have HL152_0 := n1_; have HL152_1 := n2_; have HL152_2 := n3_; have HR152_0 := n4_; have HR152_1 := n5_; have HR152_2 := n6_; have HB := n7_; have BK153 := n8_; have GW153 := n9_; have GE153 := n10_; clear n0_ n1_ n2_ n3_ n4_ n5_ n6_ n7_ n8_ n9_ n10_; clear hb hbox hg; have p154 : 0 ≤ (0 : Int) := (by omega); have q154 : 0 < (l0.length : Int) := of_dec; obtain ⟨ad154, A154_0, c154_0, A154_1, c154_1, A154_2, c154_2, e154, hx154_0, hx154_1, hx154_2, hl154_0, hi154_0, hl154_1, hi154_1, hl154_2, hi154_2⟩ := at_T100 (Kd.V_reads' HO0.out).2.2 0 p154 q154; obtain rfl : ad152 = ad154 := (by injection e154); obtain ⟨ce154, hce154, hMe154, hcc154⟩ := Kd.V_get HO0.out z100 0 p154 (by first | exact q154 | exact of_dec | (have e_ := (Kd.V_reads' HO0.out).1; omega)); obtain ⟨ua154_0, uc154_0, ua154_1, uc154_1, ua154_2, uc154_2, rfl, ul154_0, ge154_0, ul154_1, ge154_1, ul154_2, ge154_2⟩ := k100_openF hMe154; have hv154_0 := hcc154 0 _ rfl; rw [Nat.add_zero] at hv154_0; replace hv154_0 := Option.some.inj (hv154_0.symm.trans hx154_0); injection hv154_0 with hva_ hvn_ hvc_; rw [hva_] at ge154_0; rw [hvc_] at ul154_0; have HL154_0 := Aside0.mk (show Kd.V (Kd.int .u8) 5 _ w.heap.size _ _ ((rd_T100 l0 0).f0) from Kd.V_mk ul154_0 ge154_0); clear hva_ hvn_ hvc_ ge154_0 ul154_0; have hv154_1 := hcc154 1 _ rfl; rw [add_field _ _ 1 (by omega)] at hv154_1; replace hv154_1 := Option.some.inj (hv154_1.symm.trans hx154_1); injection hv154_1 with hva_ hvn_ hvc_; rw [hva_] at ge154_1; rw [hvc_] at ul154_1; have HL154_1 := Aside0.mk (show Kd.V k103 103 _ w.heap.size _ _ ((rd_T100 l0 0).f1) from Kd.V_mk ul154_1 ge154_1); clear hva_ hvn_ hvc_ ge154_1 ul154_1; have hv154_2 := hcc154 2 _ rfl; rw [add_field _ _ 2 (by omega)] at hv154_2; replace hv154_2 := Option.some.inj (hv154_2.symm.trans hx154_2); injection hv154_2 with hva_ hvn_ hvc_; rw [hva_] at ge154_2; rw [hvc_] at ul154_2; have HL154_2 := Aside0.mk (show Kd.V k33 33 _ w.heap.size _ _ ((rd_T100 l0 0).f2.f0) from Kd.V_mk ul154_2 ge154_2); clear hva_ hvn_ hvc_ ge154_2 ul154_2; clear hcc154 hce154; have qi154 : (0 < l0.length) = True := eq_true (by omega); (try rw [show ((0 : Int)).toNat = 0 from rfl] at hx154_0); (try rw [show 0 * 3 = 0 from rfl] at hx154_0); (try rw [Addr.add_zero'] at hx154_0); (try rw [show ((0 : Int)).toNat = 0 from rfl] at hx154_1); (try rw [show 0 * 3 = 0 from rfl] at hx154_1); (try rw [Addr.add_zero'] at hx154_1); (try rw [show ((0 : Int)).toNat = 0 from rfl] at hx154_2); (try rw [show 0 * 3 = 0 from rfl] at hx154_2); (try rw [Addr.add_zero'] at hx154_2); have HR154_0 := Aside0.mk hi154_0; have HC154_0 := Aside0.mk hl154_0; clear hi154_0 hl154_0; have HR154_1 := Aside0.mk hi154_1; have HC154_1 := Aside0.mk hl154_1; clear hi154_1 hl154_1; have HR154_2 := Aside0.mk hi154_2; have HC154_2 := Aside0.mk hl154_2; clear hi154_2 hl154_2; replace p154 := eq_true p154; replace q154 := eq_true q154; have p155 : 0 ≤ (0 : Int) := (by omega); have q155 : 0 < (l0.length : Int) := of_dec; obtain ⟨ad155, A155_0, c155_0, A155_1, c155_1, A155_2, c155_2, e155, hx155_0, hx155_1, hx155_2, hl155_0, hi155_0, hl155_1, hi155_1, hl155_2, hi155_2⟩ := at_T100 (Kd.V_reads' HO0.out).2.2 0 p155 q155; obtain rfl : ad152 = ad155 := (by injection e155); obtain ⟨ce155, hce155, hMe155, hcc155⟩ := Kd.V_get HO0.out z100 0 p155 (by first | exact q155 | exact of_dec | (have e_ := (Kd.V_reads' HO0.out).1; omega)); obtain ⟨ua155_0, uc155_0, ua155_1, uc155_1, ua155_2, uc155_2, rfl, ul155_0, ge155_0, ul155_1, ge155_1, ul155_2, ge155_2⟩ := k100_openF hMe155; have hv155_0 := hcc155 0 _ rfl; rw [Nat.add_zero] at hv155_0; replace hv155_0 := Option.some.inj (hv155_0.symm.trans hx155_0); injection hv155_0 with hva_ hvn_ hvc_; rw [hva_] at ge155_0; rw [hvc_] at ul155_0; have HL155_0 := Aside0.mk (show Kd.V (Kd.int .u8) 5 _ w.heap.size _ _ ((rd_T100 l0 0).f0) from Kd.V_mk ul155_0 ge155_0); clear hva_ hvn_ hvc_ ge155_0 ul155_0; have hv155_1 := hcc155 1 _ rfl; rw [add_field _ _ 1 (by omega)] at hv155_1; replace hv155_1 := Option.some.inj (hv155_1.symm.trans hx155_1); injection hv155_1 with hva_ hvn_ hvc_; rw [hva_] at ge155_1; rw [hvc_] at ul155_1; have HL155_1 := Aside0.mk (show Kd.V k103 103 _ w.heap.size _ _ ((rd_T100 l0 0).f1) from Kd.V_mk ul155_1 ge155_1); clear hva_ hvn_ hvc_ ge155_1 ul155_1; have hv155_2 := hcc155 2 _ rfl; rw [add_field _ _ 2 (by omega)] at hv155_2; replace hv155_2 := Option.some.inj (hv155_2.symm.trans hx155_2); injection hv155_2 with hva_ hvn_ hvc_; rw [hva_] at ge155_2; rw [hvc_] at ul155_2; have HL155_2 := Aside0.mk (show Kd.V k33 33 _ w.heap.size _ _ ((rd_T100 l0 0).f2.f0) from Kd.V_mk ul155_2 ge155_2); clear hva_ hvn_ hvc_ ge155_2 ul155_2; clear hcc155 hce155; have qi155 : (0 < l0.length) = True := eq_true (by omega); (try rw [show ((0 : Int)).toNat = 0 from rfl] at hx155_0); (try rw [show 0 * 3 = 0 from rfl] at hx155_0); (try rw [Addr.add_zero'] at hx155_0); (try rw [show ((0 : Int)).toNat = 0 from rfl] at hx155_1); (try rw [show 0 * 3 = 0 from rfl] at hx155_1); (try rw [Addr.add_zero'] at hx155_1); (try rw [show ((0 : Int)).toNat = 0 from rfl] at hx155_2); (try rw [show 0 * 3 = 0 from rfl] at hx155_2); (try rw [Addr.add_zero'] at hx155_2); have HR155_0 := Aside0.mk hi155_0; have HC155_0 := Aside0.mk hl155_0; clear hi155_0 hl155_0; have HR155_1 := Aside0.mk hi155_1; have HC155_1 := Aside0.mk hl155_1; clear hi155_1 hl155_1; have HR155_2 := Aside0.mk hi155_2; have HC155_2 := Aside0.mk hl155_2; clear hi155_2 hl155_2; replace p155 := eq_true p155; replace q155 := eq_true q155; have ea_ := Option.some.inj (hx154_0.symm.trans hx155_0); injection ea_ with ea_ en_ ec_; subst ea_; subst ec_; clear en_; have ea_ := Option.some.inj (hx154_1.symm.trans hx155_1); injection ea_ with ea_ en_ ec_; subst ea_; subst ec_; clear en_; have ea_ := Option.some.inj (hx154_2.symm.trans hx155_2); injection ea_ with ea_ en_ ec_; subst ea_; subst ec_; clear en_; have p156 : 0 ≤ (a1 : Int) := of_dec; have q156 : a1 < (((rd_T100 l0 0).f2.f0).length : Int) := of_dec; obtain ⟨ad156, A156_3, c156_3, e156, hx156_0, hx156_1, hx156_2, hx156_3, hl156_3, hi156_3⟩ := at_T33 (by repeat (first | (with_reducible exact HR155_2.out) | (with_reducible refine Kd.C_alloc ?_ _) | (with_reducible refine Kd.C_drewN ?_ _) | (with_reducible refine Kd.C_drew ?_) | exact HR155_2.out)) a1 p156 q156; cases e156; obtain ⟨ce156, hce156, hMe156, hcc156⟩ := Kd.V_get HL155_2.out z33 a1 p156 (by first | exact q156 | exact of_dec | (have e_ := (Kd.V_reads' HL155_2.out).1; omega)); obtain ⟨ua156_3, uc156_3, rfl, ul156_3, ge156_3⟩ := k33_openF hMe156; have hv156_3 := hcc156 3 _ rfl; rw [add_field _ _ 3 (by omega)] at hv156_3; replace hv156_3 := Option.some.inj (hv156_3.symm.trans hx156_3); injection hv156_3 with hva_ hvn_ hvc_; rw [hva_] at ge156_3; rw [hvc_] at ul156_3; have HL156_3 := Aside0.mk (show Kd.V (Kd.int .i64) 3 _ w.heap.size _ _ ((rd_T33 ((rd_T100 l0 0).f2.f0) a1).f3) from Kd.V_mk ul156_3 ge156_3); clear hva_ hvn_ hvc_ ge156_3 ul156_3; clear hcc156 hce156; have HR156_3 := Aside0.mk hi156_3; have HC156_3 := Aside0.mk hl156_3; clear hi156_3 hl156_3; replace p156 := eq_true p156; replace q156 := eq_true q156; have hcz13_0 : w12.cell? ⟨gb153, 0, none⟩ = some (.int .i64 0) := (blk_cell BK153.out 0).trans rfl; have hcz13_1 : w12.cell? ⟨gb153, 1, none⟩ = some (.int .i64 0) := (blk_cell BK153.out 1).trans rfl; have hcz13_2 : w12.cell? ⟨gb153, 2, none⟩ = some (.int .i64 0) := (blk_cell BK153.out 2).trans rfl; have hcz13_3 : w12.cell? ⟨gb153, 3, none⟩ = some (.slice none 0 0) := (blk_cell BK153.out 3).trans rfl; have hfz13_0 := blk_frozen BK153.out 0; have hfz13_1 := blk_frozen BK153.out 1; have hfz13_2 := blk_frozen BK153.out 2; have hfz13_3 := blk_frozen BK153.out 3))
      refine bodyPost_ret (results_cell_row rfl _ _ gb153 33 #[.int .i64 ((rd_T33 ((rd_T100 l0 0).f2.f0) a1).f0), .int .i64 ((rd_T33 ((rd_T100 l0 0).f2.f0) a1).f1), .int .i64 ((rd_T33 ((rd_T100 l0 0).f2.f0) a1).f2), .slice A156_3 ((rd_T33 ((rd_T100 l0 0).f2.f0) a1).f3).length c156_3] (0, 0) _ rfl (by (with_reducible repeat (first | refine blk_drewN ?_ _ | refine blk_drew ?_ | refine blk_alloc ?_ _)); refine blk_put (cs := #[.int .i64 ((rd_T33 ((rd_T100 l0 0).f2.f0) a1).f0), .int .i64 ((rd_T33 ((rd_T100 l0 0).f2.f0) a1).f1), .int .i64 ((rd_T33 ((rd_T100 l0 0).f2.f0) a1).f2), .slice none 0 0]) ?_ 3 _ rfl; refine blk_put (cs := #[.int .i64 ((rd_T33 ((rd_T100 l0 0).f2.f0) a1).f0), .int .i64 ((rd_T33 ((rd_T100 l0 0).f2.f0) a1).f1), .int .i64 0, .slice none 0 0]) ?_ 2 _ rfl; refine blk_put (cs := #[.int .i64 ((rd_T33 ((rd_T100 l0 0).f2.f0) a1).f0), .int .i64 0, .int .i64 0, .slice none 0 0]) ?_ 1 _ rfl; refine blk_put (cs := #[.int .i64 0, .int .i64 0, .int .i64 0, .slice none 0 0]) ?_ 0 _ rfl; (with_reducible repeat (first | refine blk_drewN ?_ _ | refine blk_drew ?_ | refine blk_alloc ?_ _)); exact BK153.out) Tryd.underlying33 rfl (by kernel_rfl)) rfl ?_
      exact ⟨_, by first | rfl | (simp [*, errW_none, errW_some, erT_no, erV_no, erT_at, erV_at] <;> rfl), by (with_reducible repeat (first | apply Kd.V_alloc | apply Kd.V_drewN | apply Kd.V_drew)); exact Kd.V_mono (Kd.V_far (p := ⟨gb153, 3, none⟩) (Kd.V_far (p := ⟨gb153, 2, none⟩) (Kd.V_far (p := ⟨gb153, 1, none⟩) (Kd.V_far (p := ⟨gb153, 0, none⟩) (Kd.V_mono HL156_3.out (fun k_ hk => (⟨hk, hk.2⟩ : _ ∧ k_ ≠ gb153))) (fun _ hk => hk.2) (.int .i64 ((rd_T33 ((rd_T100 l0 0).f2.f0) a1).f0))) (fun _ hk => hk.2) (.int .i64 ((rd_T33 ((rd_T100 l0 0).f2.f0) a1).f1))) (fun _ hk => hk.2) (.int .i64 ((rd_T33 ((rd_T100 l0 0).f2.f0) a1).f2))) (fun _ hk => hk.2) (.slice A156_3 ((rd_T33 ((rd_T100 l0 0).f2.f0) a1).f3).length c156_3)) (fun _ hk => hk.1.1), by repeat (first | (with_reducible first | exact HB.out | apply below_alloc | apply pw_below_drewN | apply below_drew1 | refine below_set ?_ GE153.out) | exact HB.out)⟩
     ·rw [if_neg c11] at H
      exact absurd H (by simp)
    ·rw [if_neg c10] at H
     exact absurd H (by simp)
 ·rw [if_neg c3] at H
  exact absurd H (by simp)

/-! ### view_File_Node_nil: function 40 -/
def view_File_Node_nil.f (a0 : Unit) (a1 : Int) : Option (Int × Int × Int × List Int) := some (0, 0, 0, ([] : List Int))
set_option maxHeartbeats 8000000 in
set_option maxRecDepth 100000 in
theorem view_File_Node_nil.calls (a0 : Unit) (a1 : Int) (r1 : Int) (r2 : Int) (r3 : Int) (r4 : List Int) (w : World) (h : view_File_Node_nil.f a0 a1 = some (r1, r2, r3, r4)) :
  Calls Tryd.prog 40 #[.pointer none, .int .i64 a1] w fun e w' => ∃ v3_ : Value, e = .returned (.agg #[.int .i64 r1, .int .i64 r2, .int .i64 r3, v3_]) ∧ Kd.R (Kd.int .i64) 3 w' w.heap.size (fun _ => True) v3_ r4 ∧ Below w.heap.size w w' := by
 have hu33 := Tryd.underlying33
 have HB := Aside0.mk (Below.refl w.heap.size w)
 have H : (some (0, 0, 0, ([] : List Int))) = some (r1, r2, r3, r4) := h
 clear h
 simp only [Option.some.injEq, Prod.mk.injEq] at H
 obtain ⟨rfl, rfl, rfl, rfl⟩ := H
 go_enter Tryd.func40, Tryd.ntmps40
 go_wp2_with (first | ((with_reducible refine gate_dst (N := 4) rfl ?_); (try (refine gate_guard (by rfl) ?_; dsimp only)); refine box_event ?hg (N := 4) ?hd (cs := #[.int .i64 0, .int .i64 0, .int .i64 0, .slice none 0 0]) (t := 33) ?hr ?_; (case hd => rfl); (case hg => rfl); (case hr => first | (go_simp; done) | (go_simp; rfl)); intro gb157 hg w3 hbox hb; have n0_ := Aside0.mk (below_step (go_b HB.out) hb); have n1_ := Aside0.mk (hbox); have n2_ := Aside0.mk ((by rw [hg]; exact (below_size (go_b HB.out)) : w.heap.size ≤ gb157)); have n3_ := n2_; clear HB; have HB := n0_; have BK157 := n1_; have GW157 := n2_; have GE157 := n3_; clear n0_ n1_ n2_ n3_; clear hb hbox hg; have hcz4_0 : w3.cell? ⟨gb157, 0, none⟩ = some (.int .i64 0) := (blk_cell BK157.out 0).trans rfl; have hcz4_1 : w3.cell? ⟨gb157, 1, none⟩ = some (.int .i64 0) := (blk_cell BK157.out 1).trans rfl; have hcz4_2 : w3.cell? ⟨gb157, 2, none⟩ = some (.int .i64 0) := (blk_cell BK157.out 2).trans rfl; have hcz4_3 : w3.cell? ⟨gb157, 3, none⟩ = some (.slice none 0 0) := (blk_cell BK157.out 3).trans rfl; have hfz4_0 := blk_frozen BK157.out 0; have hfz4_1 := blk_frozen BK157.out 1; have hfz4_2 := blk_frozen BK157.out 2; have hfz4_3 := blk_frozen BK157.out 3))
 refine bodyPost_ret (results_cell_row rfl _ _ gb157 33 #[.int .i64 0, .int .i64 0, .int .i64 0, .slice none 0 0] (0, 0) _ rfl (by (with_reducible repeat (first | refine blk_drewN ?_ _ | refine blk_drew ?_ | refine blk_alloc ?_ _)); refine blk_put (cs := #[.int .i64 0, .int .i64 0, .int .i64 0, .slice none 0 0]) ?_ 3 _ rfl; refine blk_put (cs := #[.int .i64 0, .int .i64 0, .int .i64 0, .slice none 0 0]) ?_ 2 _ rfl; refine blk_put (cs := #[.int .i64 0, .int .i64 0, .int .i64 0, .slice none 0 0]) ?_ 1 _ rfl; refine blk_put (cs := #[.int .i64 0, .int .i64 0, .int .i64 0, .slice none 0 0]) ?_ 0 _ rfl; (with_reducible repeat (first | refine blk_drewN ?_ _ | refine blk_drew ?_ | refine blk_alloc ?_ _)); exact BK157.out) Tryd.underlying33 rfl (by kernel_rfl)) rfl ?_
 exact ⟨_, by first | rfl | (simp [*, errW_none, errW_some, erT_no, erV_no, erT_at, erV_at] <;> rfl), by first | exact Kd.R_nil _ _ _ _ _ | exact Kd.N_nil _ _ _ _ _ | exact Kd.V_nil _ _ _ _ _ | exact Kd.Q_nil _ _ _ _ _ | exact Kd.S_nil _ _ _ _ _, by repeat (first | (with_reducible first | exact HB.out | apply below_alloc | apply pw_below_drewN | apply below_drew1 | refine below_set ?_ GE157.out) | exact HB.out)⟩

/-! ### view_File_Kid: function 41 -/
def view_File_Kid.f (l0 : List (S100)) (a1 : Int) (a2 : Int) : Option (Int) := if 0 < (l0.length : Int) then ((view_File_Node.f l0 a1).bind fun bt159 => (if a2 < 0 then (some (-1)) else (if a2 ≥ (bt159.2.2.2.length : Int) then (some (-1)) else (if 0 ≤ a2 then (if a2 < (bt159.2.2.2.length : Int) then (some (rd bt159.2.2.2 a2)) else (none)) else (none))))) else (none)
set_option maxHeartbeats 8000000 in
set_option maxRecDepth 100000 in
theorem view_File_Kid.calls (A0 : Option Addr) (c0 : Nat) (l0 : List (S100)) (a1 : Int) (a2 : Int) (r : Int) (w : World) (hr0 : Kd.C k100 w A0 l0.length l0) (hc0 : l0.length ≤ c0) (h : view_File_Kid.f l0 a1 a2 = some r) :
  Calls Tryd.prog 41 #[.pointer A0, .int .i64 a1, .int .i64 a2] w fun e w' => e = .returned (.int .i64 r) ∧ Below w.heap.size w w' := by
 have hu33 := Tryd.underlying33
 have hfd33_3 : ∀ (c0_ c1_ c2_ c3_ : Value) (W_ : World), (Instr.field 33 (.agg #[c0_, c1_, c2_, c3_]) 3).run Tryd.prog W_ = .ok (c3_) W_ := fun _ _ _ _ _ => by kernel_rfl
 have HR0 := Aside0.mk hr0
 have HC0 := Aside0.mk hc0
 clear hr0 hc0
 have HB := Aside0.mk (Below.refl w.heap.size w)
 have H : (if 0 < (l0.length : Int) then ((view_File_Node.f l0 a1).bind fun bt159 => (if a2 < 0 then (some (-1)) else (if a2 ≥ (bt159.2.2.2.length : Int) then (some (-1)) else (if 0 ≤ a2 then (if a2 < (bt159.2.2.2.length : Int) then (some (rd bt159.2.2.2 a2)) else (none)) else (none))))) else (none)) = some r := h
 clear h
 by_cases c4 : 0 < (l0.length : Int)
 ·rw [if_pos c4] at H
  have c4b0 : decide (0 < (l0.length : Int)) = true := decide_eq_true c4
  have c4b1 : decide (0 < l0.length) = true := decide_eq_true (by omega)
  clear c4
  replace H := Option.bind_eq_some_iff.mp H
  obtain ⟨⟨t159, t160, t161, t162⟩, A50, H⟩ := H
  replace H : (if a2 < 0 then (some (-1)) else (if a2 ≥ (t162.length : Int) then (some (-1)) else (if 0 ≤ a2 then (if a2 < (t162.length : Int) then (some (rd t162 a2)) else (none)) else (none)))) = some r := H
  have A5 := Aside0.mk A50
  clear A50
  by_cases c6 : a2 < 0
  ·rw [if_pos c6] at H
   have c6b0 : decide (a2 < 0) = true := decide_eq_true c6
   clear c6
   obtain rfl := Option.some.inj H
   have p158 : 0 ≤ (0 : Int) := (by omega)
   have q158 : 0 < (l0.length : Int) := of_dec
   obtain ⟨ad158, A158_0, c158_0, A158_1, c158_1, A158_2, c158_2, e158, hx158_0, hx158_1, hx158_2, hl158_0, hi158_0, hl158_1, hi158_1, hl158_2, hi158_2⟩ := at_T100 HR0.out 0 p158 q158
   cases e158
   have qi158 : (0 < l0.length) = True := eq_true (by omega)
   (try rw [show ((0 : Int)).toNat = 0 from rfl] at hx158_0)
   (try rw [show 0 * 3 = 0 from rfl] at hx158_0)
   (try rw [Addr.add_zero'] at hx158_0)
   (try rw [show ((0 : Int)).toNat = 0 from rfl] at hx158_1)
   (try rw [show 0 * 3 = 0 from rfl] at hx158_1)
   (try rw [Addr.add_zero'] at hx158_1)
   (try rw [show ((0 : Int)).toNat = 0 from rfl] at hx158_2)
   (try rw [show 0 * 3 = 0 from rfl] at hx158_2)
   (try rw [Addr.add_zero'] at hx158_2)
   have HR158_0 := Aside0.mk hi158_0
   have HC158_0 := Aside0.mk hl158_0
   clear hi158_0 hl158_0
   have HR158_1 := Aside0.mk hi158_1
   have HC158_1 := Aside0.mk hl158_1
   clear hi158_1 hl158_1
   have HR158_2 := Aside0.mk hi158_2
   have HC158_2 := Aside0.mk hl158_2
   clear hi158_2 hl158_2
   replace p158 := eq_true p158
   replace q158 := eq_true q158
   go_enter Tryd.func41, Tryd.ntmps41
   go_wp2_with (first | ((with_reducible refine gate_callee (f := 40) rfl ?_); refine goesL_ (some 10) rfl rfl Tryd.func40 (by kernel_rfl) rfl #[.pointer (some ad158), .int .i64 a1] rfl (by (try simp only [List.map_toArray, List.map_cons, List.map_nil]); first | done | rfl | (simp only [List.length_drop, List.length_take]; rfl)) ?_; (with_reducible refine (view_File_Node.calls (fun k_ => k_ < w.heap.size) _ c0 l0 a1 t159 t160 t161 t162 _ ?side1 A5.out).mono ?_); (case side1 => exact Kd.V_mk HC0.out (Kd.F_below (Kd.C_F k100_heap HR0.out) (go_b HB.out))); rintro e w7 ⟨v163, rfl, ho0, hb⟩; refine ⟨_, rfl, ?_⟩; have n0_ := Aside0.mk (Kd.V_lower (Kd.V_mono (ok' := fun k_ => True) ho0 (fun k_ hk_ => trivial)) (below_size (go_b HB.out))); have n1_ := Aside0.mk (below_step (go_b HB.out) hb); clear HB; have HO164 := n0_; have HB := n1_; clear n0_ n1_; (try clear hb); (try clear hb2); (try clear hk); (try clear hi); (try clear ho0)))
   go_ret
   exact ⟨by first | rfl | (simp [*, errW_none, errW_some, erT_no, erV_no, erT_at, erV_at] <;> rfl), by repeat (first | (with_reducible first | exact HB.out | apply below_alloc | apply pw_below_drewN | apply below_drew1) | exact HB.out)⟩
  ·rw [if_neg c6] at H
   have c6b0 : decide (a2 < 0) = false := decide_eq_false c6
   clear c6
   by_cases c8 : a2 ≥ (t162.length : Int)
   ·rw [if_pos c8] at H
    have c8b0 : decide ((t162.length : Int) ≤ a2) = true := decide_eq_true c8
    clear c8
    obtain rfl := Option.some.inj H
    have p158 : 0 ≤ (0 : Int) := (by omega)
    have q158 : 0 < (l0.length : Int) := of_dec
    obtain ⟨ad158, A158_0, c158_0, A158_1, c158_1, A158_2, c158_2, e158, hx158_0, hx158_1, hx158_2, hl158_0, hi158_0, hl158_1, hi158_1, hl158_2, hi158_2⟩ := at_T100 HR0.out 0 p158 q158
    cases e158
    have qi158 : (0 < l0.length) = True := eq_true (by omega)
    (try rw [show ((0 : Int)).toNat = 0 from rfl] at hx158_0)
    (try rw [show 0 * 3 = 0 from rfl] at hx158_0)
    (try rw [Addr.add_zero'] at hx158_0)
    (try rw [show ((0 : Int)).toNat = 0 from rfl] at hx158_1)
    (try rw [show 0 * 3 = 0 from rfl] at hx158_1)
    (try rw [Addr.add_zero'] at hx158_1)
    (try rw [show ((0 : Int)).toNat = 0 from rfl] at hx158_2)
    (try rw [show 0 * 3 = 0 from rfl] at hx158_2)
    (try rw [Addr.add_zero'] at hx158_2)
    have HR158_0 := Aside0.mk hi158_0
    have HC158_0 := Aside0.mk hl158_0
    clear hi158_0 hl158_0
    have HR158_1 := Aside0.mk hi158_1
    have HC158_1 := Aside0.mk hl158_1
    clear hi158_1 hl158_1
    have HR158_2 := Aside0.mk hi158_2
    have HC158_2 := Aside0.mk hl158_2
    clear hi158_2 hl158_2
    replace p158 := eq_true p158
    replace q158 := eq_true q158
    go_enter Tryd.func41, Tryd.ntmps41
    go_wp2_with (first | ((with_reducible refine gate_callee (f := 40) rfl ?_); refine goesL_ (some 10) rfl rfl Tryd.func40 (by kernel_rfl) rfl #[.pointer (some ad158), .int .i64 a1] rfl (by (try simp only [List.map_toArray, List.map_cons, List.map_nil]); first | done | rfl | (simp only [List.length_drop, List.length_take]; rfl)) ?_; (with_reducible refine (view_File_Node.calls (fun k_ => k_ < w.heap.size) _ c0 l0 a1 t159 t160 t161 t162 _ ?side1 A5.out).mono ?_); (case side1 => exact Kd.V_mk HC0.out (Kd.F_below (Kd.C_F k100_heap HR0.out) (go_b HB.out))); rintro e w9 ⟨v163, rfl, ho0, hb⟩; refine ⟨_, rfl, ?_⟩; have n0_ := Aside0.mk (Kd.V_lower (Kd.V_mono (ok' := fun k_ => True) ho0 (fun k_ hk_ => trivial)) (below_size (go_b HB.out))); have n1_ := Aside0.mk (below_step (go_b HB.out) hb); clear HB; have HO164 := n0_; have HB := n1_; clear n0_ n1_; (try clear hb); (try clear hb2); (try clear hk); (try clear hi); (try clear ho0); obtain ⟨Ao10, co10, eo10⟩ := Kd.V_slice HO164.out; subst eo10))
    go_ret
    exact ⟨by first | rfl | (simp [*, errW_none, errW_some, erT_no, erV_no, erT_at, erV_at] <;> rfl), by repeat (first | (with_reducible first | exact HB.out | apply below_alloc | apply pw_below_drewN | apply below_drew1) | exact HB.out)⟩
   ·rw [if_neg c8] at H
    have c8b0 : decide ((t162.length : Int) ≤ a2) = false := decide_eq_false c8
    clear c8
    by_cases c11 : 0 ≤ a2
    ·rw [if_pos c11] at H
     have c11b0 : decide (0 ≤ a2) = true := decide_eq_true c11
     clear c11
     by_cases c12 : a2 < (t162.length : Int)
     ·rw [if_pos c12] at H
      have c12b0 : decide (a2 < (t162.length : Int)) = true := decide_eq_true c12
      clear c12
      obtain rfl := Option.some.inj H
      have p158 : 0 ≤ (0 : Int) := (by omega)
      have q158 : 0 < (l0.length : Int) := of_dec
      obtain ⟨ad158, A158_0, c158_0, A158_1, c158_1, A158_2, c158_2, e158, hx158_0, hx158_1, hx158_2, hl158_0, hi158_0, hl158_1, hi158_1, hl158_2, hi158_2⟩ := at_T100 HR0.out 0 p158 q158
      cases e158
      have qi158 : (0 < l0.length) = True := eq_true (by omega)
      (try rw [show ((0 : Int)).toNat = 0 from rfl] at hx158_0)
      (try rw [show 0 * 3 = 0 from rfl] at hx158_0)
      (try rw [Addr.add_zero'] at hx158_0)
      (try rw [show ((0 : Int)).toNat = 0 from rfl] at hx158_1)
      (try rw [show 0 * 3 = 0 from rfl] at hx158_1)
      (try rw [Addr.add_zero'] at hx158_1)
      (try rw [show ((0 : Int)).toNat = 0 from rfl] at hx158_2)
      (try rw [show 0 * 3 = 0 from rfl] at hx158_2)
      (try rw [Addr.add_zero'] at hx158_2)
      have HR158_0 := Aside0.mk hi158_0
      have HC158_0 := Aside0.mk hl158_0
      clear hi158_0 hl158_0
      have HR158_1 := Aside0.mk hi158_1
      have HC158_1 := Aside0.mk hl158_1
      clear hi158_1 hl158_1
      have HR158_2 := Aside0.mk hi158_2
      have HC158_2 := Aside0.mk hl158_2
      clear hi158_2 hl158_2
      replace p158 := eq_true p158
      replace q158 := eq_true q158
      go_enter Tryd.func41, Tryd.ntmps41
      go_wp2_with (first | ((with_reducible refine gate_callee (f := 40) rfl ?_); refine goesL_ (some 10) rfl rfl Tryd.func40 (by kernel_rfl) rfl #[.pointer (some ad158), .int .i64 a1] rfl (by (try simp only [List.map_toArray, List.map_cons, List.map_nil]); first | done | rfl | (simp only [List.length_drop, List.length_take]; rfl)) ?_; (with_reducible refine (view_File_Node.calls (fun k_ => k_ < w.heap.size) _ c0 l0 a1 t159 t160 t161 t162 _ ?side1 A5.out).mono ?_); (case side1 => exact Kd.V_mk HC0.out (Kd.F_below (Kd.C_F k100_heap HR0.out) (go_b HB.out))); rintro e w13 ⟨v163, rfl, ho0, hb⟩; refine ⟨_, rfl, ?_⟩; have n0_ := Aside0.mk (Kd.V_lower (Kd.V_mono (ok' := fun k_ => True) ho0 (fun k_ hk_ => trivial)) (below_size (go_b HB.out))); have n1_ := Aside0.mk (below_step (go_b HB.out) hb); clear HB; have HO164 := n0_; have HB := n1_; clear n0_ n1_; (try clear hb); (try clear hb2); (try clear hk); (try clear hi); (try clear ho0); obtain ⟨Ao14, co14, eo14⟩ := Kd.V_slice HO164.out; subst eo14; have p165 : 0 ≤ (a2 : Int) := of_dec; have q165 : a2 < (t162.length : Int) := of_dec; obtain ⟨ad165, e165, hx165_0⟩ := Kd.at_int (Kd.V_reads' HO164.out).2.2 a2 p165 q165; cases e165; replace p165 := eq_true p165; replace q165 := eq_true q165))
      go_ret
      exact ⟨by first | rfl | (simp [*, errW_none, errW_some, erT_no, erV_no, erT_at, erV_at] <;> rfl), by repeat (first | (with_reducible first | exact HB.out | apply below_alloc | apply pw_below_drewN | apply below_drew1) | exact HB.out)⟩
     ·rw [if_neg c12] at H
      exact absurd H (by simp)
    ·rw [if_neg c11] at H
     exact absurd H (by simp)
 ·rw [if_neg c4] at H
  exact absurd H (by simp)

/-! ### view_File_Kid_nil: function 41 -/
def view_File_Kid_nil.f (a0 : Unit) (a1 : Int) (a2 : Int) : Option (Int) := (view_File_Node_nil.f a0 a1).bind fun bt166 => (if a2 < 0 then (some (-1)) else (if a2 ≥ (bt166.2.2.2.length : Int) then (some (-1)) else (if 0 ≤ a2 then (if a2 < (bt166.2.2.2.length : Int) then (some (rd bt166.2.2.2 a2)) else (none)) else (none))))
set_option maxHeartbeats 8000000 in
set_option maxRecDepth 100000 in
theorem view_File_Kid_nil.calls (a0 : Unit) (a1 : Int) (a2 : Int) (r : Int) (w : World) (h : view_File_Kid_nil.f a0 a1 a2 = some r) :
  Calls Tryd.prog 41 #[.pointer none, .int .i64 a1, .int .i64 a2] w fun e w' => e = .returned (.int .i64 r) ∧ Below w.heap.size w w' := by
 have hu33 := Tryd.underlying33
 have hfd33_3 : ∀ (c0_ c1_ c2_ c3_ : Value) (W_ : World), (Instr.field 33 (.agg #[c0_, c1_, c2_, c3_]) 3).run Tryd.prog W_ = .ok (c3_) W_ := fun _ _ _ _ _ => by kernel_rfl
 have HB := Aside0.mk (Below.refl w.heap.size w)
 have H : ((view_File_Node_nil.f a0 a1).bind fun bt166 => (if a2 < 0 then (some (-1)) else (if a2 ≥ (bt166.2.2.2.length : Int) then (some (-1)) else (if 0 ≤ a2 then (if a2 < (bt166.2.2.2.length : Int) then (some (rd bt166.2.2.2 a2)) else (none)) else (none))))) = some r := h
 clear h
 replace H := Option.bind_eq_some_iff.mp H
 obtain ⟨⟨t166, t167, t168, t169⟩, A40, H⟩ := H
 replace H : (if a2 < 0 then (some (-1)) else (if a2 ≥ (t169.length : Int) then (some (-1)) else (if 0 ≤ a2 then (if a2 < (t169.length : Int) then (some (rd t169 a2)) else (none)) else (none)))) = some r := H
 have A4 := Aside0.mk A40
 clear A40
 by_cases c5 : a2 < 0
 ·rw [if_pos c5] at H
  have c5b0 : decide (a2 < 0) = true := decide_eq_true c5
  clear c5
  obtain rfl := Option.some.inj H
  go_enter Tryd.func41, Tryd.ntmps41
  go_wp2_with (first | ((with_reducible refine gate_callee (f := 40) rfl ?_); refine goesL_ (some 10) rfl rfl Tryd.func40 (by kernel_rfl) rfl #[.pointer none, .int .i64 a1] rfl (by (try simp only [List.map_toArray, List.map_cons, List.map_nil]); first | done | rfl | (simp only [List.length_drop, List.length_take]; rfl)) ?_; (with_reducible refine (view_File_Node_nil.calls a0 a1 t166 t167 t168 t169 _ A4.out).mono ?_); rintro e w6 ⟨v170, rfl, ho0, hb⟩; refine ⟨_, rfl, ?_⟩; have n0_ := Aside0.mk (Kd.R_lower ho0 (below_size (go_b HB.out))); have n1_ := Aside0.mk (below_step (go_b HB.out) hb); clear HB; have HO171 := n0_; have HB := n1_; clear n0_ n1_; (try clear hb); (try clear hb2); (try clear hk); (try clear hi); (try clear ho0)))
  go_ret
  exact ⟨by first | rfl | (simp [*, errW_none, errW_some, erT_no, erV_no, erT_at, erV_at] <;> rfl), by repeat (first | (with_reducible first | exact HB.out | apply below_alloc | apply pw_below_drewN | apply below_drew1) | exact HB.out)⟩
 ·rw [if_neg c5] at H
  have c5b0 : decide (a2 < 0) = false := decide_eq_false c5
  clear c5
  by_cases c7 : a2 ≥ (t169.length : Int)
  ·rw [if_pos c7] at H
   have c7b0 : decide ((t169.length : Int) ≤ a2) = true := decide_eq_true c7
   clear c7
   obtain rfl := Option.some.inj H
   go_enter Tryd.func41, Tryd.ntmps41
   go_wp2_with (first | ((with_reducible refine gate_callee (f := 40) rfl ?_); refine goesL_ (some 10) rfl rfl Tryd.func40 (by kernel_rfl) rfl #[.pointer none, .int .i64 a1] rfl (by (try simp only [List.map_toArray, List.map_cons, List.map_nil]); first | done | rfl | (simp only [List.length_drop, List.length_take]; rfl)) ?_; (with_reducible refine (view_File_Node_nil.calls a0 a1 t166 t167 t168 t169 _ A4.out).mono ?_); rintro e w8 ⟨v170, rfl, ho0, hb⟩; refine ⟨_, rfl, ?_⟩; have n0_ := Aside0.mk (Kd.R_lower ho0 (below_size (go_b HB.out))); have n1_ := Aside0.mk (below_step (go_b HB.out) hb); clear HB; have HO171 := n0_; have HB := n1_; clear n0_ n1_; (try clear hb); (try clear hb2); (try clear hk); (try clear hi); (try clear ho0); obtain ⟨Ao9, co9, eo9⟩ := Kd.R_slice HO171.out; subst eo9))
   go_ret
   exact ⟨by first | rfl | (simp [*, errW_none, errW_some, erT_no, erV_no, erT_at, erV_at] <;> rfl), by repeat (first | (with_reducible first | exact HB.out | apply below_alloc | apply pw_below_drewN | apply below_drew1) | exact HB.out)⟩
  ·rw [if_neg c7] at H
   have c7b0 : decide ((t169.length : Int) ≤ a2) = false := decide_eq_false c7
   clear c7
   by_cases c10 : 0 ≤ a2
   ·rw [if_pos c10] at H
    have c10b0 : decide (0 ≤ a2) = true := decide_eq_true c10
    clear c10
    by_cases c11 : a2 < (t169.length : Int)
    ·rw [if_pos c11] at H
     have c11b0 : decide (a2 < (t169.length : Int)) = true := decide_eq_true c11
     clear c11
     obtain rfl := Option.some.inj H
     go_enter Tryd.func41, Tryd.ntmps41
     go_wp2_with (first | ((with_reducible refine gate_callee (f := 40) rfl ?_); refine goesL_ (some 10) rfl rfl Tryd.func40 (by kernel_rfl) rfl #[.pointer none, .int .i64 a1] rfl (by (try simp only [List.map_toArray, List.map_cons, List.map_nil]); first | done | rfl | (simp only [List.length_drop, List.length_take]; rfl)) ?_; (with_reducible refine (view_File_Node_nil.calls a0 a1 t166 t167 t168 t169 _ A4.out).mono ?_); rintro e w12 ⟨v170, rfl, ho0, hb⟩; refine ⟨_, rfl, ?_⟩; have n0_ := Aside0.mk (Kd.R_lower ho0 (below_size (go_b HB.out))); have n1_ := Aside0.mk (below_step (go_b HB.out) hb); clear HB; have HO171 := n0_; have HB := n1_; clear n0_ n1_; (try clear hb); (try clear hb2); (try clear hk); (try clear hi); (try clear ho0); obtain ⟨Ao13, co13, eo13⟩ := Kd.R_slice HO171.out; subst eo13; have p172 : 0 ≤ (a2 : Int) := of_dec; have q172 : a2 < (t169.length : Int) := of_dec; obtain ⟨ad172, e172, hx172_0⟩ := Kd.at_int (Kd.R_reads' HO171.out).2.2 a2 p172 q172; cases e172; replace p172 := eq_true p172; replace q172 := eq_true q172))
     go_ret
     exact ⟨by first | rfl | (simp [*, errW_none, errW_some, erT_no, erV_no, erT_at, erV_at] <;> rfl), by repeat (first | (with_reducible first | exact HB.out | apply below_alloc | apply pw_below_drewN | apply below_drew1) | exact HB.out)⟩
    ·rw [if_neg c11] at H
     exact absurd H (by simp)
   ·rw [if_neg c10] at H
    exact absurd H (by simp)

/-! ### scan_Text: function 68 -/
def scan_Text.f (l0 : List Int) (a1_0 : Int) (a1_1 : Int) (a1_2 : Int) (a1_3 : Bool) (a1_4 : Int) : Option (ByteArray) := if a1_1 < 0 then (some (⟨#[]⟩ : ByteArray)) else (if a1_1 > a1_2 then (some (⟨#[]⟩ : ByteArray)) else (if a1_2 > (l0.length : Int) then (some (⟨#[]⟩ : ByteArray)) else (if 0 ≤ a1_1 then (if a1_1 ≤ a1_2 then (if a1_2 ≤ (l0.length : Int) then (some (strOfNums ((l0.take (a1_2 : Int).toNat).drop (a1_1 : Int).toNat))) else (none)) else (none)) else (none))))
set_option maxHeartbeats 8000000 in
set_option maxRecDepth 100000 in
theorem scan_Text.calls (A0 : Option Addr) (c0 : Nat) (l0 : List Int) (a1_0 : Int) (a1_1 : Int) (a1_2 : Int) (a1_3 : Bool) (a1_4 : Int) (r : ByteArray) (w : World) (hr0 : Kd.C (Kd.int .u8) w A0 l0.length l0) (hc0 : l0.length ≤ c0) (h : scan_Text.f l0 a1_0 a1_1 a1_2 a1_3 a1_4 = some r) :
  Calls Tryd.prog 68 #[.slice A0 l0.length c0, .agg #[.int .i64 a1_0, .int .i64 a1_1, .int .i64 a1_2, .bool a1_3, .int .i64 a1_4]] w fun e w' => e = .returned (.string r) ∧ Below w.heap.size w w' := by
 have hu103 := Tryd.underlying103
 have HR0 := Aside0.mk hr0
 have HC0 := Aside0.mk hc0
 clear hr0 hc0
 have HB := Aside0.mk (Below.refl w.heap.size w)
 have H : (if a1_1 < 0 then (some (⟨#[]⟩ : ByteArray)) else (if a1_1 > a1_2 then (some (⟨#[]⟩ : ByteArray)) else (if a1_2 > (l0.length : Int) then (some (⟨#[]⟩ : ByteArray)) else (if 0 ≤ a1_1 then (if a1_1 ≤ a1_2 then (if a1_2 ≤ (l0.length : Int) then (some (strOfNums ((l0.take (a1_2 : Int).toNat).drop (a1_1 : Int).toNat))) else (none)) else (none)) else (none))))) = some r := h
 clear h
 by_cases c3 : a1_1 < 0
 ·rw [if_pos c3] at H
  have c3b0 : decide (a1_1 < 0) = true := decide_eq_true c3
  clear c3
  obtain rfl := Option.some.inj H
  go_enter Tryd.func68, Tryd.ntmps68
  go_wp2_with (first | ((with_reducible refine gate_dst (N := 3) rfl ?_); (try (refine gate_guard (by rfl) ?_; dsimp only)); refine box_event ?hg (N := 3) ?hd (cs := #[.int .i64 a1_0, .int .i64 a1_1, .int .i64 a1_2, .bool a1_3, .int .i64 a1_4]) (t := 103) ?hr ?_; (case hd => rfl); (case hg => rfl); (case hr => first | (go_simp; done) | (go_simp; rfl)); intro gb173 hg w4 hbox hb; have n0_ := Aside0.mk (below_step (go_b HB.out) hb); have n1_ := Aside0.mk (hbox); have n2_ := Aside0.mk ((by rw [hg]; exact (below_size (go_b HB.out)) : w.heap.size ≤ gb173)); have n3_ := n2_; clear HB; have HB := n0_; have BK173 := n1_; have GW173 := n2_; have GE173 := n3_; clear n0_ n1_ n2_ n3_; clear hb hbox hg; have hcz5_0 : w4.cell? ⟨gb173, 0, none⟩ = some (.int .i64 a1_0) := (blk_cell BK173.out 0).trans rfl; have hcz5_1 : w4.cell? ⟨gb173, 1, none⟩ = some (.int .i64 a1_1) := (blk_cell BK173.out 1).trans rfl; have hcz5_2 : w4.cell? ⟨gb173, 2, none⟩ = some (.int .i64 a1_2) := (blk_cell BK173.out 2).trans rfl; have hcz5_3 : w4.cell? ⟨gb173, 3, none⟩ = some (.bool a1_3) := (blk_cell BK173.out 3).trans rfl; have hcz5_4 : w4.cell? ⟨gb173, 4, none⟩ = some (.int .i64 a1_4) := (blk_cell BK173.out 4).trans rfl; have hfz5_0 := blk_frozen BK173.out 0; have hfz5_1 := blk_frozen BK173.out 1; have hfz5_2 := blk_frozen BK173.out 2; have hfz5_3 := blk_frozen BK173.out 3; have hfz5_4 := blk_frozen BK173.out 4))
  go_ret
  exact ⟨by first | rfl | (simp [*, errW_none, errW_some, erT_no, erV_no, erT_at, erV_at] <;> rfl), by repeat (first | (with_reducible first | exact HB.out | apply below_alloc | apply pw_below_drewN | apply below_drew1 | refine below_set ?_ GE173.out) | exact HB.out)⟩
 ·rw [if_neg c3] at H
  have c3b0 : decide (a1_1 < 0) = false := decide_eq_false c3
  clear c3
  by_cases c6 : a1_1 > a1_2
  ·rw [if_pos c6] at H
   have c6b0 : decide (a1_2 < a1_1) = true := decide_eq_true c6
   clear c6
   obtain rfl := Option.some.inj H
   go_enter Tryd.func68, Tryd.ntmps68
   go_wp2_with (first | ((with_reducible refine gate_dst (N := 3) rfl ?_); (try (refine gate_guard (by rfl) ?_; dsimp only)); refine box_event ?hg (N := 3) ?hd (cs := #[.int .i64 a1_0, .int .i64 a1_1, .int .i64 a1_2, .bool a1_3, .int .i64 a1_4]) (t := 103) ?hr ?_; (case hd => rfl); (case hg => rfl); (case hr => first | (go_simp; done) | (go_simp; rfl)); intro gb173 hg w7 hbox hb; have n0_ := Aside0.mk (below_step (go_b HB.out) hb); have n1_ := Aside0.mk (hbox); have n2_ := Aside0.mk ((by rw [hg]; exact (below_size (go_b HB.out)) : w.heap.size ≤ gb173)); have n3_ := n2_; clear HB; have HB := n0_; have BK173 := n1_; have GW173 := n2_; have GE173 := n3_; clear n0_ n1_ n2_ n3_; clear hb hbox hg; have hcz8_0 : w7.cell? ⟨gb173, 0, none⟩ = some (.int .i64 a1_0) := (blk_cell BK173.out 0).trans rfl; have hcz8_1 : w7.cell? ⟨gb173, 1, none⟩ = some (.int .i64 a1_1) := (blk_cell BK173.out 1).trans rfl; have hcz8_2 : w7.cell? ⟨gb173, 2, none⟩ = some (.int .i64 a1_2) := (blk_cell BK173.out 2).trans rfl; have hcz8_3 : w7.cell? ⟨gb173, 3, none⟩ = some (.bool a1_3) := (blk_cell BK173.out 3).trans rfl; have hcz8_4 : w7.cell? ⟨gb173, 4, none⟩ = some (.int .i64 a1_4) := (blk_cell BK173.out 4).trans rfl; have hfz8_0 := blk_frozen BK173.out 0; have hfz8_1 := blk_frozen BK173.out 1; have hfz8_2 := blk_frozen BK173.out 2; have hfz8_3 := blk_frozen BK173.out 3; have hfz8_4 := blk_frozen BK173.out 4))
   go_ret
   exact ⟨by first | rfl | (simp [*, errW_none, errW_some, erT_no, erV_no, erT_at, erV_at] <;> rfl), by repeat (first | (with_reducible first | exact HB.out | apply below_alloc | apply pw_below_drewN | apply below_drew1 | refine below_set ?_ GE173.out) | exact HB.out)⟩
  ·rw [if_neg c6] at H
   have c6b0 : decide (a1_2 < a1_1) = false := decide_eq_false c6
   clear c6
   by_cases c9 : a1_2 > (l0.length : Int)
   ·rw [if_pos c9] at H
    have c9b0 : decide ((l0.length : Int) < a1_2) = true := decide_eq_true c9
    clear c9
    obtain rfl := Option.some.inj H
    go_enter Tryd.func68, Tryd.ntmps68
    go_wp2_with (first | ((with_reducible refine gate_dst (N := 3) rfl ?_); (try (refine gate_guard (by rfl) ?_; dsimp only)); refine box_event ?hg (N := 3) ?hd (cs := #[.int .i64 a1_0, .int .i64 a1_1, .int .i64 a1_2, .bool a1_3, .int .i64 a1_4]) (t := 103) ?hr ?_; (case hd => rfl); (case hg => rfl); (case hr => first | (go_simp; done) | (go_simp; rfl)); intro gb173 hg w10 hbox hb; have n0_ := Aside0.mk (below_step (go_b HB.out) hb); have n1_ := Aside0.mk (hbox); have n2_ := Aside0.mk ((by rw [hg]; exact (below_size (go_b HB.out)) : w.heap.size ≤ gb173)); have n3_ := n2_; clear HB; have HB := n0_; have BK173 := n1_; have GW173 := n2_; have GE173 := n3_; clear n0_ n1_ n2_ n3_; clear hb hbox hg; have hcz11_0 : w10.cell? ⟨gb173, 0, none⟩ = some (.int .i64 a1_0) := (blk_cell BK173.out 0).trans rfl; have hcz11_1 : w10.cell? ⟨gb173, 1, none⟩ = some (.int .i64 a1_1) := (blk_cell BK173.out 1).trans rfl; have hcz11_2 : w10.cell? ⟨gb173, 2, none⟩ = some (.int .i64 a1_2) := (blk_cell BK173.out 2).trans rfl; have hcz11_3 : w10.cell? ⟨gb173, 3, none⟩ = some (.bool a1_3) := (blk_cell BK173.out 3).trans rfl; have hcz11_4 : w10.cell? ⟨gb173, 4, none⟩ = some (.int .i64 a1_4) := (blk_cell BK173.out 4).trans rfl; have hfz11_0 := blk_frozen BK173.out 0; have hfz11_1 := blk_frozen BK173.out 1; have hfz11_2 := blk_frozen BK173.out 2; have hfz11_3 := blk_frozen BK173.out 3; have hfz11_4 := blk_frozen BK173.out 4))
    go_ret
    exact ⟨by first | rfl | (simp [*, errW_none, errW_some, erT_no, erV_no, erT_at, erV_at] <;> rfl), by repeat (first | (with_reducible first | exact HB.out | apply below_alloc | apply pw_below_drewN | apply below_drew1 | refine below_set ?_ GE173.out) | exact HB.out)⟩
   ·rw [if_neg c9] at H
    have c9b0 : decide ((l0.length : Int) < a1_2) = false := decide_eq_false c9
    clear c9
    by_cases c12 : 0 ≤ a1_1
    ·rw [if_pos c12] at H
     have c12b0 := eq_true c12
     have c12b1 : decide (0 ≤ a1_1) = true := decide_eq_true c12
     clear c12
     by_cases c13 : a1_1 ≤ a1_2
     ·rw [if_pos c13] at H
      have c13b0 := eq_true c13
      have c13b1 : decide (a1_1 ≤ a1_2) = true := decide_eq_true c13
      clear c13
      by_cases c14 : a1_2 ≤ (l0.length : Int)
      ·rw [if_pos c14] at H
       have c14b0 := eq_true c14
       have c14b1 : decide (a1_2 ≤ (l0.length : Int)) = true := decide_eq_true c14
       clear c14
       obtain ⟨y174, hy174⟩ : ∃ y_ : List Int, y_ = ((l0.take (a1_2 : Int).toNat).drop (a1_1 : Int).toNat) := ⟨_, rfl⟩
       replace H : (some (strOfNums y174)) = some r := by first | (rw [hy174]; with_reducible exact H) | (have H2_ := (Option.bind_some _ _).symm.trans H; rw [hy174]; with_reducible exact H2_) | (have H2_ := (Option.bind_some _ _).symm.trans H; with_reducible exact H2_) | with_reducible exact H | (rw [hy174]; exact H) | exact H
       have Ny174 := Aside0.mk hy174
       clear hy174
       obtain rfl := Option.some.inj H
       go_enter Tryd.func68, Tryd.ntmps68
       go_wp2_with (first | ((with_reducible refine gate_dst (N := 3) rfl ?_); (try (refine gate_guard (by rfl) ?_; dsimp only)); refine box_event ?hg (N := 3) ?hd (cs := #[.int .i64 a1_0, .int .i64 a1_1, .int .i64 a1_2, .bool a1_3, .int .i64 a1_4]) (t := 103) ?hr ?_; (case hd => rfl); (case hg => rfl); (case hr => first | (go_simp; done) | (go_simp; rfl)); intro gb173 hg w15 hbox hb; have n0_ := Aside0.mk (below_step (go_b HB.out) hb); have n1_ := Aside0.mk (hbox); have n2_ := Aside0.mk ((by rw [hg]; exact (below_size (go_b HB.out)) : w.heap.size ≤ gb173)); have n3_ := n2_; clear HB; have HB := n0_; have BK173 := n1_; have GW173 := n2_; have GE173 := n3_; clear n0_ n1_ n2_ n3_; clear hb hbox hg; have hcz16_0 : w15.cell? ⟨gb173, 0, none⟩ = some (.int .i64 a1_0) := (blk_cell BK173.out 0).trans rfl; have hcz16_1 : w15.cell? ⟨gb173, 1, none⟩ = some (.int .i64 a1_1) := (blk_cell BK173.out 1).trans rfl; have hcz16_2 : w15.cell? ⟨gb173, 2, none⟩ = some (.int .i64 a1_2) := (blk_cell BK173.out 2).trans rfl; have hcz16_3 : w15.cell? ⟨gb173, 3, none⟩ = some (.bool a1_3) := (blk_cell BK173.out 3).trans rfl; have hcz16_4 : w15.cell? ⟨gb173, 4, none⟩ = some (.int .i64 a1_4) := (blk_cell BK173.out 4).trans rfl; have hfz16_0 := blk_frozen BK173.out 0; have hfz16_1 := blk_frozen BK173.out 1; have hfz16_2 := blk_frozen BK173.out 2; have hfz16_3 := blk_frozen BK173.out 3; have hfz16_4 := blk_frozen BK173.out 4; have q17 : (a1_2 : Int) ≤ ((l0.length : Int) : Int) := of_dec; obtain ⟨i017, hi017, _, hsz17, _⟩ := info_parts info5; have hroom17 : l0.length ≤ c0 := HC0.out; have hC17 : Kd.C (Kd.int .u8) _ A0 l0.length l0 := HR0.out; have ql17 : (a1_1 : Int) ≤ (a1_2 : Int) := of_dec; have q017 : (0 : Int) ≤ (a1_1 : Int) := of_dec; have hcut17 := cut_mid (P := Tryd.prog) 47 5 .i64 .i64 Tryd.underlying47 hi017 1 hsz17 A0 l0.length c0 a1_1 a1_2 q017 ql17 q17 hroom17; have hr17 := Kd.C_mid (lo := (a1_1 : Int).toNat) (hi := (a1_2 : Int).toNat) (c := c0) hC17 (by omega) (by omega) hroom17; obtain ⟨A17, hA17⟩ : ∃ A1, A1 = (if c0 = (a1_1 : Int).toNat then A0 else (A0 : Option Addr).map (·.add ((a1_1 : Int).toNat * 1))) := ⟨_, rfl⟩; obtain ⟨c17, hc17⟩ : ∃ c1, c1 = c0 - (a1_1 : Int).toNat := ⟨_, rfl⟩; have hy17 : y174.length = (a1_2 : Int).toNat - (a1_1 : Int).toNat := (by rw [Ny174.out, List.length_drop, List.length_take] <;> omega); rw [show ((l0).take (a1_2 : Int).toNat).drop (a1_1 : Int).toNat = y174 from Ny174.out.symm] at hr17; replace hr17 : Kd.C (Kd.int .u8) _ A17 y174.length y174 := (by rw [hA17]; exact hr17); rw [← hy17, ← hA17, ← hc17] at hcut17; have HR177 := Aside0.mk hr17; have HC177 := Aside0.mk (show y174.length ≤ c17 from by rw [hy17, hc17]; exact Nat.sub_le_sub_right (Nat.le_trans (by omega) hroom17) _); clear hr17 hC17 hroom17 hi017 hsz17 hc17; have KY17 := Aside0.mk hy17; have KA17 := Aside0.mk hA17; clear hy17 hA17; replace q17 := eq_true q17; have hcv18 := Kd.C_string (P := Tryd.prog) (A := A17) (c := c17) Tryd.underlying47 Tryd.underlying5 Tryd.underlying9 (Kd.C_below HR177.out HB.out)))
       go_ret
       exact ⟨by first | rfl | (simp [*, errW_none, errW_some, erT_no, erV_no, erT_at, erV_at] <;> rfl), by repeat (first | (with_reducible first | exact HB.out | apply below_alloc | apply pw_below_drewN | apply below_drew1 | refine below_set ?_ GE173.out) | exact HB.out)⟩
      ·rw [if_neg c14] at H
       exact absurd H (by simp)
     ·rw [if_neg c13] at H
      exact absurd H (by simp)
    ·rw [if_neg c12] at H
     exact absurd H (by simp)

end Go.Proofs.YtnpgadfoohjlnaaDoor.QV
