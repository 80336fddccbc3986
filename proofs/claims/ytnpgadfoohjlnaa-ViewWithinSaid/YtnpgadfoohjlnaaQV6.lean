/- Where a Lean function of this text answers, the Go function of its name comes to that answer: no other condition. Written by a program of this session out of the translation; Lean checks it. -/
import Derived.Test.YtnpgadfoohjlnaaQV0
namespace Go.Proofs.Ytnpgadfoohjlnaa.QV
open Go.RowKit Go.Proofs.YtnpgadfoohjlnaaW.PrintWords Go.Proofs.YtnpgadfoohjlnaaW.PrintLast Go.Proofs.YtnpgadfoohjlnaaW.PrintMore Go.Proofs.YtnpgadfoohjlnaaW.PrintX
attribute [local go_sem] max2_int min2_int max_two min_two max_three min_three max_four min_four   -- for this text's walks alone
set_option linter.unusedVariables false
set_option linter.unusedSimpArgs false

/-! ### view_File_Span_nil: function 11 -/
def view_File_Span_nil.f (a0 : Unit) (a1 : Int) : Option (Int × Int) := some (0, 0)
set_option maxHeartbeats 8000000 in
set_option maxRecDepth 100000 in
theorem view_File_Span_nil.calls (a0 : Unit) (a1 : Int) (r1 : Int) (r2 : Int) (w : World) (h : view_File_Span_nil.f a0 a1 = some (r1, r2)) :
    Calls Try.prog 11 #[.pointer none, .int .i64 a1] w fun e w' => e = .returned (.agg #[.int .i64 r1, .int .i64 r2]) ∧ Below w.heap.size w w' := by
  have hu40 := Try.underlying40
  have hu44 := Try.underlying44
  have HB := Aside0.mk (Below.refl w.heap.size w)
  have H : (some (0, 0)) = some (r1, r2) := h
  clear h
  simp only [Option.some.injEq, Prod.mk.injEq] at H
  obtain ⟨rfl, rfl⟩ := H
  go_enter Try.func11, Try.ntmps11
  go_wp2_with (first | ((with_reducible refine gate_dst (N := 4) rfl ?_); (try (refine gate_guard (by rfl) ?_; dsimp only)); refine box_event ?hg (N := 4) ?hd (cs := #[.int .i64 0, .int .i64 0]) (t := 40) ?hr ?_; (case hd => rfl); (case hg => rfl); (case hr => first | (go_simp; done) | (go_simp; rfl)); intro gb154 hg w3 hbox hb; have n0_ := Aside0.mk (below_step (by repeat (first | (with_reducible first | exact HB.out | apply below_alloc | apply pw_below_drewN | apply below_drew1) | exact HB.out)) hb); have n1_ := Aside0.mk (hbox); have n2_ := Aside0.mk ((by rw [hg]; exact (below_size (by repeat (first | (with_reducible first | exact HB.out | apply below_alloc | apply pw_below_drewN | apply below_drew1) | exact HB.out))) : w.heap.size ≤ gb154)); have n3_ := n2_; clear HB; have HB := n0_; have BK154 := n1_; have GW154 := n2_; have GE154 := n3_; clear n0_ n1_ n2_ n3_; clear hb hbox hg; have hcz4_0 : w3.cell? ⟨gb154, 0, none⟩ = some (.int .i64 0) := (blk_cell BK154.out 0).trans rfl; have hcz4_1 : w3.cell? ⟨gb154, 1, none⟩ = some (.int .i64 0) := (blk_cell BK154.out 1).trans rfl; have hfz4_0 := blk_frozen BK154.out 0; have hfz4_1 := blk_frozen BK154.out 1))
  refine bodyPost_ret (results_cell_row rfl _ _ gb154 40 #[.int .i64 0, .int .i64 0] (0, 0) _ rfl (by (with_reducible repeat (first | refine blk_drewN ?_ _ | refine blk_drew ?_ | refine blk_alloc ?_ _)); refine blk_put (cs := #[.int .i64 0, .int .i64 0]) ?_ 1 _ rfl; (with_reducible repeat (first | refine blk_drewN ?_ _ | refine blk_drew ?_ | refine blk_alloc ?_ _)); refine blk_put (cs := #[.int .i64 0, .int .i64 0]) ?_ 0 _ rfl; (with_reducible repeat (first | refine blk_drewN ?_ _ | refine blk_drew ?_ | refine blk_alloc ?_ _)); exact BK154.out) Try.underlying40 rfl (by kernel_rfl)) rfl ?_
  exact ⟨by first | rfl | (simp [errW_none, errW_some, erT_no, erV_no, erT_at, erV_at] <;> rfl) | (simp [*, errW_none, errW_some, erT_no, erV_no, erT_at, erV_at] <;> rfl), by repeat (first | (with_reducible first | exact HB.out | apply below_alloc | apply pw_below_drewN | apply below_drew1 | refine below_set ?_ GE154.out) | exact HB.out)⟩

/-! ### view_File_Node: function 37 -/
def view_File_Node.f (l0 : List (S72)) (a1 : Int) : Option (Int × Int × Int × List Int) := if 0 < (l0.length : Int) then (if a1 < 0 then (some (0, 0, 0, ([] : List Int))) else (if a1 ≥ (((rd_T72 l0 0).f2.f0).length : Int) then (some (0, 0, 0, ([] : List Int))) else (if 0 ≤ a1 then (if a1 < (((rd_T72 l0 0).f2.f0).length : Int) then (some ((rd_T44 ((rd_T72 l0 0).f2.f0) a1).f0, (rd_T44 ((rd_T72 l0 0).f2.f0) a1).f1, (rd_T44 ((rd_T72 l0 0).f2.f0) a1).f2, (rd_T44 ((rd_T72 l0 0).f2.f0) a1).f3)) else (none)) else (none)))) else (none)
set_option maxHeartbeats 8000000 in
set_option maxRecDepth 100000 in
theorem view_File_Node.calls (P0_ : Nat → Prop) (A0 : Option Addr) (c0 : Nat) (l0 : List (S72)) (a1 : Int) (r1 : Int) (r2 : Int) (r3 : Int) (r4 : List Int) (w : World) (hs0 : Kd.V k72 72 w w.heap.size (fun k_ => P0_ k_) (.slice A0 l0.length c0) l0) (h : view_File_Node.f l0 a1 = some (r1, r2, r3, r4)) :
    Calls Try.prog 37 #[.pointer A0, .int .i64 a1] w fun e w' => ∃ v3_ : Value, e = .returned (.agg #[.int .i64 r1, .int .i64 r2, .int .i64 r3, v3_]) ∧ Kd.V (Kd.int .i64) 3 w' w.heap.size (fun k_ => (P0_ k_ ∨ w.heap.size ≤ k_)) v3_ r4 ∧ Below w.heap.size w w' := by
  have hu44 := Try.underlying44
  have HO0 := Aside0.mk (show Kd.V k72 72 w w.heap.size (fun k_ => (P0_ k_ ∨ w.heap.size ≤ k_)) (.slice A0 l0.length c0) l0 from Kd.V_mono hs0 (fun k_ hk => .inl hk))
  have HB := Aside0.mk (Below.refl w.heap.size w)
  have H : (if 0 < (l0.length : Int) then (if a1 < 0 then (some (0, 0, 0, ([] : List Int))) else (if a1 ≥ (((rd_T72 l0 0).f2.f0).length : Int) then (some (0, 0, 0, ([] : List Int))) else (if 0 ≤ a1 then (if a1 < (((rd_T72 l0 0).f2.f0).length : Int) then (some ((rd_T44 ((rd_T72 l0 0).f2.f0) a1).f0, (rd_T44 ((rd_T72 l0 0).f2.f0) a1).f1, (rd_T44 ((rd_T72 l0 0).f2.f0) a1).f2, (rd_T44 ((rd_T72 l0 0).f2.f0) a1).f3)) else (none)) else (none)))) else (none)) = some (r1, r2, r3, r4) := h
  clear h
  by_cases c3 : 0 < (l0.length : Int)
  · rw [if_pos c3] at H
    have c3b0 : decide (0 < (l0.length : Int)) = true := decide_eq_true c3
    have c3b1 : decide (0 < l0.length) = true := decide_eq_true (by omega)
    clear c3
    by_cases c4 : a1 < 0
    · rw [if_pos c4] at H
      have c4b0 : decide (a1 < 0) = true := decide_eq_true c4
      clear c4
      simp only [Option.some.injEq, Prod.mk.injEq] at H
      obtain ⟨rfl, rfl, rfl, rfl⟩ := H
      have p155 : 0 ≤ (0 : Int) := (by omega)
      have q155 : 0 < (l0.length : Int) := of_decide_eq_true (by first | (with_reducible assumption) | assumption)
      obtain ⟨ad155, A155_0, c155_0, A155_1, c155_1, A155_2, c155_2, e155, hx155_0, hx155_1, hx155_2, hl155_0, hi155_0, hl155_1, hi155_1, hl155_2, hi155_2⟩ := at_T72 (Kd.V_reads' HO0.out).2.2 0 p155 q155
      cases e155
      obtain ⟨ce155, hce155, hMe155, hcc155⟩ := Kd.V_get HO0.out z72 0 p155 (by first | exact q155 | exact of_decide_eq_true (by first | (with_reducible assumption) | assumption) | (have e_ := (Kd.V_reads' HO0.out).1; omega))
      obtain ⟨ua155_0, uc155_0, ua155_1, uc155_1, ua155_2, uc155_2, rfl, ul155_0, ge155_0, ul155_1, ge155_1, ul155_2, ge155_2⟩ := k72_openF hMe155
      have hv155_0 := hcc155 0 _ rfl
      rw [Nat.add_zero] at hv155_0
      replace hv155_0 := Option.some.inj (hv155_0.symm.trans hx155_0)
      injection hv155_0 with hva_ hvn_ hvc_
      rw [hva_] at ge155_0
      rw [hvc_] at ul155_0
      have HL155_0 := Aside0.mk (show Kd.V (Kd.int .u8) 5 _ w.heap.size _ _ ((rd_T72 l0 0).f0) from Kd.V_mk ul155_0 ge155_0)
      clear hva_ hvn_ hvc_ ge155_0 ul155_0
      have hv155_1 := hcc155 1 _ rfl
      rw [add_field _ _ 1 (by omega)] at hv155_1
      replace hv155_1 := Option.some.inj (hv155_1.symm.trans hx155_1)
      injection hv155_1 with hva_ hvn_ hvc_
      rw [hva_] at ge155_1
      rw [hvc_] at ul155_1
      have HL155_1 := Aside0.mk (show Kd.V k38 38 _ w.heap.size _ _ ((rd_T72 l0 0).f1) from Kd.V_mk ul155_1 ge155_1)
      clear hva_ hvn_ hvc_ ge155_1 ul155_1
      have hv155_2 := hcc155 2 _ rfl
      rw [add_field _ _ 2 (by omega)] at hv155_2
      replace hv155_2 := Option.some.inj (hv155_2.symm.trans hx155_2)
      injection hv155_2 with hva_ hvn_ hvc_
      rw [hva_] at ge155_2
      rw [hvc_] at ul155_2
      have HL155_2 := Aside0.mk (show Kd.V k44 44 _ w.heap.size _ _ ((rd_T72 l0 0).f2.f0) from Kd.V_mk ul155_2 ge155_2)
      clear hva_ hvn_ hvc_ ge155_2 ul155_2
      clear hcc155 hce155
      have qi155 : (0 < l0.length) = True := eq_true (by omega)
      (try rw [show ((0 : Int)).toNat = 0 from rfl] at hx155_0)
      (try rw [show 0 * 3 = 0 from rfl] at hx155_0)
      (try rw [Addr.add_zero'] at hx155_0)
      (try rw [show ((0 : Int)).toNat = 0 from rfl] at hx155_1)
      (try rw [show 0 * 3 = 0 from rfl] at hx155_1)
      (try rw [Addr.add_zero'] at hx155_1)
      (try rw [show ((0 : Int)).toNat = 0 from rfl] at hx155_2)
      (try rw [show 0 * 3 = 0 from rfl] at hx155_2)
      (try rw [Addr.add_zero'] at hx155_2)
      have HR155_0 := Aside0.mk hi155_0
      have HC155_0 := Aside0.mk hl155_0
      clear hi155_0 hl155_0
      have HR155_1 := Aside0.mk hi155_1
      have HC155_1 := Aside0.mk hl155_1
      clear hi155_1 hl155_1
      have HR155_2 := Aside0.mk hi155_2
      have HC155_2 := Aside0.mk hl155_2
      clear hi155_2 hl155_2
      replace p155 := eq_true p155
      replace q155 := eq_true q155
      go_enter Try.func37, Try.ntmps37
      go_wp2_with (first | ((with_reducible refine gate_dst (N := 4) rfl ?_); (try (refine gate_guard (by rfl) ?_; dsimp only)); refine box_event ?hg (N := 4) ?hd (cs := #[.int .i64 0, .int .i64 0, .int .i64 0, .slice none 0 0]) (t := 44) ?hr ?_; (case hd => rfl); (case hg => rfl); (case hr => first | (go_simp; done) | (go_simp; rfl)); intro gb156 hg w5 hbox hb; have n0_ := Aside0.mk (Kd.V_below (Kd.V_elderB (by (with_reducible repeat (first | apply Kd.V_alloc | apply Kd.V_drewN | apply Kd.V_drew)); exact HO0.out) gb156 (Nat.le_of_eq hg.symm)) hb); have n1_ := Aside0.mk (Kd.V_below (Kd.V_elderB (by (with_reducible repeat (first | apply Kd.V_alloc | apply Kd.V_drewN | apply Kd.V_drew)); exact HL155_0.out) gb156 (Nat.le_of_eq hg.symm)) hb); have n2_ := Aside0.mk (Kd.V_below (Kd.V_elderB (by (with_reducible repeat (first | apply Kd.V_alloc | apply Kd.V_drewN | apply Kd.V_drew)); exact HL155_1.out) gb156 (Nat.le_of_eq hg.symm)) hb); have n3_ := Aside0.mk (Kd.V_below (Kd.V_elderB (by (with_reducible repeat (first | apply Kd.V_alloc | apply Kd.V_drewN | apply Kd.V_drew)); exact HL155_2.out) gb156 (Nat.le_of_eq hg.symm)) hb); have n4_ := Aside0.mk (Kd.C_below (by repeat (first | (with_reducible exact HR155_0.out) | (with_reducible refine Kd.C_alloc ?_ _) | (with_reducible refine Kd.C_drewN ?_ _) | (with_reducible refine Kd.C_drew ?_) | exact HR155_0.out)) hb); have n5_ := Aside0.mk (Kd.C_below (by repeat (first | (with_reducible exact HR155_1.out) | (with_reducible refine Kd.C_alloc ?_ _) | (with_reducible refine Kd.C_drewN ?_ _) | (with_reducible refine Kd.C_drew ?_) | exact HR155_1.out)) hb); have n6_ := Aside0.mk (Kd.C_below (by repeat (first | (with_reducible exact HR155_2.out) | (with_reducible refine Kd.C_alloc ?_ _) | (with_reducible refine Kd.C_drewN ?_ _) | (with_reducible refine Kd.C_drew ?_) | exact HR155_2.out)) hb); have n7_ := Aside0.mk (below_step (by repeat (first | (with_reducible first | exact HB.out | apply below_alloc | apply pw_below_drewN | apply below_drew1) | exact HB.out)) hb); have n8_ := Aside0.mk (hbox); have n9_ := Aside0.mk ((by rw [hg]; exact (below_size (by repeat (first | (with_reducible first | exact HB.out | apply below_alloc | apply pw_below_drewN | apply below_drew1) | exact HB.out))) : w.heap.size ≤ gb156)); have n10_ := Aside0.mk ((by rw [hg]; exact (below_size (by repeat (first | (with_reducible first | exact HB.out | apply below_alloc | apply pw_below_drewN | apply below_drew1) | exact HB.out))) : w.heap.size ≤ gb156)); clear HO0; clear HL155_0; clear HL155_1; clear HL155_2; clear HR155_0; clear HR155_1; clear HR155_2; clear HB; have HO0 := n0_; have HL155_0 := n1_; have HL155_1 := n2_; have HL155_2 := n3_; have HR155_0 := n4_; have HR155_1 := n5_; have HR155_2 := n6_; have HB := n7_; have BK156 := n8_; have GW156 := n9_; have GE156 := n10_; clear n0_ n1_ n2_ n3_ n4_ n5_ n6_ n7_ n8_ n9_ n10_; clear hb hbox hg; have hcz6_0 : w5.cell? ⟨gb156, 0, none⟩ = some (.int .i64 0) := (blk_cell BK156.out 0).trans rfl; have hcz6_1 : w5.cell? ⟨gb156, 1, none⟩ = some (.int .i64 0) := (blk_cell BK156.out 1).trans rfl; have hcz6_2 : w5.cell? ⟨gb156, 2, none⟩ = some (.int .i64 0) := (blk_cell BK156.out 2).trans rfl; have hcz6_3 : w5.cell? ⟨gb156, 3, none⟩ = some (.slice none 0 0) := (blk_cell BK156.out 3).trans rfl; have hfz6_0 := blk_frozen BK156.out 0; have hfz6_1 := blk_frozen BK156.out 1; have hfz6_2 := blk_frozen BK156.out 2; have hfz6_3 := blk_frozen BK156.out 3))
      refine bodyPost_ret (results_cell_row rfl _ _ gb156 44 #[.int .i64 0, .int .i64 0, .int .i64 0, .slice none 0 0] (0, 0) _ rfl (by (with_reducible repeat (first | refine blk_drewN ?_ _ | refine blk_drew ?_ | refine blk_alloc ?_ _)); refine blk_put (cs := #[.int .i64 0, .int .i64 0, .int .i64 0, .slice none 0 0]) ?_ 3 _ rfl; (with_reducible repeat (first | refine blk_drewN ?_ _ | refine blk_drew ?_ | refine blk_alloc ?_ _)); refine blk_put (cs := #[.int .i64 0, .int .i64 0, .int .i64 0, .slice none 0 0]) ?_ 2 _ rfl; (with_reducible repeat (first | refine blk_drewN ?_ _ | refine blk_drew ?_ | refine blk_alloc ?_ _)); refine blk_put (cs := #[.int .i64 0, .int .i64 0, .int .i64 0, .slice none 0 0]) ?_ 1 _ rfl; (with_reducible repeat (first | refine blk_drewN ?_ _ | refine blk_drew ?_ | refine blk_alloc ?_ _)); refine blk_put (cs := #[.int .i64 0, .int .i64 0, .int .i64 0, .slice none 0 0]) ?_ 0 _ rfl; (with_reducible repeat (first | refine blk_drewN ?_ _ | refine blk_drew ?_ | refine blk_alloc ?_ _)); exact BK156.out) Try.underlying44 rfl (by kernel_rfl)) rfl ?_
      exact ⟨_, by first | rfl | (simp [errW_none, errW_some, erT_no, erV_no, erT_at, erV_at] <;> rfl) | (simp [*, errW_none, errW_some, erT_no, erV_no, erT_at, erV_at] <;> rfl), Kd.V_nil _ _ _ _ _, by repeat (first | (with_reducible first | exact HB.out | apply below_alloc | apply pw_below_drewN | apply below_drew1 | refine below_set ?_ GE156.out) | exact HB.out)⟩
    · rw [if_neg c4] at H
      have c4b0 : decide (a1 < 0) = false := decide_eq_false c4
      clear c4
      by_cases c7 : a1 ≥ (((rd_T72 l0 0).f2.f0).length : Int)
      · rw [if_pos c7] at H
        have c7b0 : decide ((((rd_T72 l0 0).f2.f0).length : Int) ≤ a1) = true := decide_eq_true c7
        clear c7
        simp only [Option.some.injEq, Prod.mk.injEq] at H
        obtain ⟨rfl, rfl, rfl, rfl⟩ := H
        have p155 : 0 ≤ (0 : Int) := (by omega)
        have q155 : 0 < (l0.length : Int) := of_decide_eq_true (by first | (with_reducible assumption) | assumption)
        obtain ⟨ad155, A155_0, c155_0, A155_1, c155_1, A155_2, c155_2, e155, hx155_0, hx155_1, hx155_2, hl155_0, hi155_0, hl155_1, hi155_1, hl155_2, hi155_2⟩ := at_T72 (Kd.V_reads' HO0.out).2.2 0 p155 q155
        cases e155
        obtain ⟨ce155, hce155, hMe155, hcc155⟩ := Kd.V_get HO0.out z72 0 p155 (by first | exact q155 | exact of_decide_eq_true (by first | (with_reducible assumption) | assumption) | (have e_ := (Kd.V_reads' HO0.out).1; omega))
        obtain ⟨ua155_0, uc155_0, ua155_1, uc155_1, ua155_2, uc155_2, rfl, ul155_0, ge155_0, ul155_1, ge155_1, ul155_2, ge155_2⟩ := k72_openF hMe155
        have hv155_0 := hcc155 0 _ rfl
        rw [Nat.add_zero] at hv155_0
        replace hv155_0 := Option.some.inj (hv155_0.symm.trans hx155_0)
        injection hv155_0 with hva_ hvn_ hvc_
        rw [hva_] at ge155_0
        rw [hvc_] at ul155_0
        have HL155_0 := Aside0.mk (show Kd.V (Kd.int .u8) 5 _ w.heap.size _ _ ((rd_T72 l0 0).f0) from Kd.V_mk ul155_0 ge155_0)
        clear hva_ hvn_ hvc_ ge155_0 ul155_0
        have hv155_1 := hcc155 1 _ rfl
        rw [add_field _ _ 1 (by omega)] at hv155_1
        replace hv155_1 := Option.some.inj (hv155_1.symm.trans hx155_1)
        injection hv155_1 with hva_ hvn_ hvc_
        rw [hva_] at ge155_1
        rw [hvc_] at ul155_1
        have HL155_1 := Aside0.mk (show Kd.V k38 38 _ w.heap.size _ _ ((rd_T72 l0 0).f1) from Kd.V_mk ul155_1 ge155_1)
        clear hva_ hvn_ hvc_ ge155_1 ul155_1
        have hv155_2 := hcc155 2 _ rfl
        rw [add_field _ _ 2 (by omega)] at hv155_2
        replace hv155_2 := Option.some.inj (hv155_2.symm.trans hx155_2)
        injection hv155_2 with hva_ hvn_ hvc_
        rw [hva_] at ge155_2
        rw [hvc_] at ul155_2
        have HL155_2 := Aside0.mk (show Kd.V k44 44 _ w.heap.size _ _ ((rd_T72 l0 0).f2.f0) from Kd.V_mk ul155_2 ge155_2)
        clear hva_ hvn_ hvc_ ge155_2 ul155_2
        clear hcc155 hce155
        have qi155 : (0 < l0.length) = True := eq_true (by omega)
        (try rw [show ((0 : Int)).toNat = 0 from rfl] at hx155_0)
        (try rw [show 0 * 3 = 0 from rfl] at hx155_0)
        (try rw [Addr.add_zero'] at hx155_0)
        (try rw [show ((0 : Int)).toNat = 0 from rfl] at hx155_1)
        (try rw [show 0 * 3 = 0 from rfl] at hx155_1)
        (try rw [Addr.add_zero'] at hx155_1)
        (try rw [show ((0 : Int)).toNat = 0 from rfl] at hx155_2)
        (try rw [show 0 * 3 = 0 from rfl] at hx155_2)
        (try rw [Addr.add_zero'] at hx155_2)
        have HR155_0 := Aside0.mk hi155_0
        have HC155_0 := Aside0.mk hl155_0
        clear hi155_0 hl155_0
        have HR155_1 := Aside0.mk hi155_1
        have HC155_1 := Aside0.mk hl155_1
        clear hi155_1 hl155_1
        have HR155_2 := Aside0.mk hi155_2
        have HC155_2 := Aside0.mk hl155_2
        clear hi155_2 hl155_2
        replace p155 := eq_true p155
        replace q155 := eq_true q155
        go_enter Try.func37, Try.ntmps37
        go_wp2_with (first | ((with_reducible refine gate_dst (N := 4) rfl ?_); (try (refine gate_guard (by rfl) ?_; dsimp only)); refine box_event ?hg (N := 4) ?hd (cs := #[.int .i64 0, .int .i64 0, .int .i64 0, .slice none 0 0]) (t := 44) ?hr ?_; (case hd => rfl); (case hg => rfl); (case hr => first | (go_simp; done) | (go_simp; rfl)); intro gb156 hg w8 hbox hb; have n0_ := Aside0.mk (Kd.V_below (Kd.V_elderB (by (with_reducible repeat (first | apply Kd.V_alloc | apply Kd.V_drewN | apply Kd.V_drew)); exact HO0.out) gb156 (Nat.le_of_eq hg.symm)) hb); have n1_ := Aside0.mk (Kd.V_below (Kd.V_elderB (by (with_reducible repeat (first | apply Kd.V_alloc | apply Kd.V_drewN | apply Kd.V_drew)); exact HL155_0.out) gb156 (Nat.le_of_eq hg.symm)) hb); have n2_ := Aside0.mk (Kd.V_below (Kd.V_elderB (by (with_reducible repeat (first | apply Kd.V_alloc | apply Kd.V_drewN | apply Kd.V_drew)); exact HL155_1.out) gb156 (Nat.le_of_eq hg.symm)) hb); have n3_ := Aside0.mk (Kd.V_below (Kd.V_elderB (by (with_reducible repeat (first | apply Kd.V_alloc | apply Kd.V_drewN | apply Kd.V_drew)); exact HL155_2.out) gb156 (Nat.le_of_eq hg.symm)) hb); have n4_ := Aside0.mk (Kd.C_below (by repeat (first | (with_reducible exact HR155_0.out) | (with_reducible refine Kd.C_alloc ?_ _) | (with_reducible refine Kd.C_drewN ?_ _) | (with_reducible refine Kd.C_drew ?_) | exact HR155_0.out)) hb); have n5_ := Aside0.mk (Kd.C_below (by repeat (first | (with_reducible exact HR155_1.out) | (with_reducible refine Kd.C_alloc ?_ _) | (with_reducible refine Kd.C_drewN ?_ _) | (with_reducible refine Kd.C_drew ?_) | exact HR155_1.out)) hb); have n6_ := Aside0.mk (Kd.C_below (by repeat (first | (with_reducible exact HR155_2.out) | (with_reducible refine Kd.C_alloc ?_ _) | (with_reducible refine Kd.C_drewN ?_ _) | (with_reducible refine Kd.C_drew ?_) | exact HR155_2.out)) hb); have n7_ := Aside0.mk (below_step (by repeat (first | (with_reducible first | exact HB.out | apply below_alloc | apply pw_below_drewN | apply below_drew1) | exact HB.out)) hb); have n8_ := Aside0.mk (hbox); have n9_ := Aside0.mk ((by rw [hg]; exact (below_size (by repeat (first | (with_reducible first | exact HB.out | apply below_alloc | apply pw_below_drewN | apply below_drew1) | exact HB.out))) : w.heap.size ≤ gb156)); have n10_ := Aside0.mk ((by rw [hg]; exact (below_size (by repeat (first | (with_reducible first | exact HB.out | apply below_alloc | apply pw_below_drewN | apply below_drew1) | exact HB.out))) : w.heap.size ≤ gb156)); clear HO0; clear HL155_0; clear HL155_1; clear HL155_2; clear HR155_0; clear HR155_1; clear HR155_2; clear HB; have HO0 := n0_; have HL155_0 := n1_; have HL155_1 := n2_; have HL155_2 := n3_; have HR155_0 := n4_; have HR155_1 := n5_; have HR155_2 := n6_; have HB := n7_; have BK156 := n8_; have GW156 := n9_; have GE156 := n10_; clear n0_ n1_ n2_ n3_ n4_ n5_ n6_ n7_ n8_ n9_ n10_; clear hb hbox hg; have p157 : 0 ≤ (0 : Int) := (by omega); have q157 : 0 < (l0.length : Int) := of_decide_eq_true (by first | (with_reducible assumption) | assumption); obtain ⟨ad157, A157_0, c157_0, A157_1, c157_1, A157_2, c157_2, e157, hx157_0, hx157_1, hx157_2, hl157_0, hi157_0, hl157_1, hi157_1, hl157_2, hi157_2⟩ := at_T72 (Kd.V_reads' HO0.out).2.2 0 p157 q157; obtain rfl : ad155 = ad157 := (by injection e157); obtain ⟨ce157, hce157, hMe157, hcc157⟩ := Kd.V_get HO0.out z72 0 p157 (by first | exact q157 | exact of_decide_eq_true (by first | (with_reducible assumption) | assumption) | (have e_ := (Kd.V_reads' HO0.out).1; omega)); obtain ⟨ua157_0, uc157_0, ua157_1, uc157_1, ua157_2, uc157_2, rfl, ul157_0, ge157_0, ul157_1, ge157_1, ul157_2, ge157_2⟩ := k72_openF hMe157; have hv157_0 := hcc157 0 _ rfl; rw [Nat.add_zero] at hv157_0; replace hv157_0 := Option.some.inj (hv157_0.symm.trans hx157_0); injection hv157_0 with hva_ hvn_ hvc_; rw [hva_] at ge157_0; rw [hvc_] at ul157_0; have HL157_0 := Aside0.mk (show Kd.V (Kd.int .u8) 5 _ w.heap.size _ _ ((rd_T72 l0 0).f0) from Kd.V_mk ul157_0 ge157_0); clear hva_ hvn_ hvc_ ge157_0 ul157_0; have hv157_1 := hcc157 1 _ rfl; rw [add_field _ _ 1 (by omega)] at hv157_1; replace hv157_1 := Option.some.inj (hv157_1.symm.trans hx157_1); injection hv157_1 with hva_ hvn_ hvc_; rw [hva_] at ge157_1; rw [hvc_] at ul157_1; have HL157_1 := Aside0.mk (show Kd.V k38 38 _ w.heap.size _ _ ((rd_T72 l0 0).f1) from Kd.V_mk ul157_1 ge157_1); clear hva_ hvn_ hvc_ ge157_1 ul157_1; have hv157_2 := hcc157 2 _ rfl; rw [add_field _ _ 2 (by omega)] at hv157_2; replace hv157_2 := Option.some.inj (hv157_2.symm.trans hx157_2); injection hv157_2 with hva_ hvn_ hvc_; rw [hva_] at ge157_2; rw [hvc_] at ul157_2; have HL157_2 := Aside0.mk (show Kd.V k44 44 _ w.heap.size _ _ ((rd_T72 l0 0).f2.f0) from Kd.V_mk ul157_2 ge157_2); clear hva_ hvn_ hvc_ ge157_2 ul157_2; clear hcc157 hce157; have qi157 : (0 < l0.length) = True := eq_true (by omega); (try rw [show ((0 : Int)).toNat = 0 from rfl] at hx157_0); (try rw [show 0 * 3 = 0 from rfl] at hx157_0); (try rw [Addr.add_zero'] at hx157_0); (try rw [show ((0 : Int)).toNat = 0 from rfl] at hx157_1); (try rw [show 0 * 3 = 0 from rfl] at hx157_1); (try rw [Addr.add_zero'] at hx157_1); (try rw [show ((0 : Int)).toNat = 0 from rfl] at hx157_2); (try rw [show 0 * 3 = 0 from rfl] at hx157_2); (try rw [Addr.add_zero'] at hx157_2); have HR157_0 := Aside0.mk hi157_0; have HC157_0 := Aside0.mk hl157_0; clear hi157_0 hl157_0; have HR157_1 := Aside0.mk hi157_1; have HC157_1 := Aside0.mk hl157_1; clear hi157_1 hl157_1; have HR157_2 := Aside0.mk hi157_2; have HC157_2 := Aside0.mk hl157_2; clear hi157_2 hl157_2; replace p157 := eq_true p157; replace q157 := eq_true q157; have hcz9_0 : w8.cell? ⟨gb156, 0, none⟩ = some (.int .i64 0) := (blk_cell BK156.out 0).trans rfl; have hcz9_1 : w8.cell? ⟨gb156, 1, none⟩ = some (.int .i64 0) := (blk_cell BK156.out 1).trans rfl; have hcz9_2 : w8.cell? ⟨gb156, 2, none⟩ = some (.int .i64 0) := (blk_cell BK156.out 2).trans rfl; have hcz9_3 : w8.cell? ⟨gb156, 3, none⟩ = some (.slice none 0 0) := (blk_cell BK156.out 3).trans rfl; have hfz9_0 := blk_frozen BK156.out 0; have hfz9_1 := blk_frozen BK156.out 1; have hfz9_2 := blk_frozen BK156.out 2; have hfz9_3 := blk_frozen BK156.out 3))
        refine bodyPost_ret (results_cell_row rfl _ _ gb156 44 #[.int .i64 0, .int .i64 0, .int .i64 0, .slice none 0 0] (0, 0) _ rfl (by (with_reducible repeat (first | refine blk_drewN ?_ _ | refine blk_drew ?_ | refine blk_alloc ?_ _)); refine blk_put (cs := #[.int .i64 0, .int .i64 0, .int .i64 0, .slice none 0 0]) ?_ 3 _ rfl; (with_reducible repeat (first | refine blk_drewN ?_ _ | refine blk_drew ?_ | refine blk_alloc ?_ _)); refine blk_put (cs := #[.int .i64 0, .int .i64 0, .int .i64 0, .slice none 0 0]) ?_ 2 _ rfl; (with_reducible repeat (first | refine blk_drewN ?_ _ | refine blk_drew ?_ | refine blk_alloc ?_ _)); refine blk_put (cs := #[.int .i64 0, .int .i64 0, .int .i64 0, .slice none 0 0]) ?_ 1 _ rfl; (with_reducible repeat (first | refine blk_drewN ?_ _ | refine blk_drew ?_ | refine blk_alloc ?_ _)); refine blk_put (cs := #[.int .i64 0, .int .i64 0, .int .i64 0, .slice none 0 0]) ?_ 0 _ rfl; (with_reducible repeat (first | refine blk_drewN ?_ _ | refine blk_drew ?_ | refine blk_alloc ?_ _)); exact BK156.out) Try.underlying44 rfl (by kernel_rfl)) rfl ?_
        exact ⟨_, by first | rfl | (simp [errW_none, errW_some, erT_no, erV_no, erT_at, erV_at] <;> rfl) | (simp [*, errW_none, errW_some, erT_no, erV_no, erT_at, erV_at] <;> rfl), Kd.V_nil _ _ _ _ _, by repeat (first | (with_reducible first | exact HB.out | apply below_alloc | apply pw_below_drewN | apply below_drew1 | refine below_set ?_ GE156.out) | exact HB.out)⟩
      · rw [if_neg c7] at H
        have c7b0 : decide ((((rd_T72 l0 0).f2.f0).length : Int) ≤ a1) = false := decide_eq_false c7
        clear c7
        by_cases c10 : 0 ≤ a1
        · rw [if_pos c10] at H
          have c10b0 : decide (0 ≤ a1) = true := decide_eq_true c10
          clear c10
          by_cases c11 : a1 < (((rd_T72 l0 0).f2.f0).length : Int)
          · rw [if_pos c11] at H
            have c11b0 : decide (a1 < (((rd_T72 l0 0).f2.f0).length : Int)) = true := decide_eq_true c11
            clear c11
            simp only [Option.some.injEq, Prod.mk.injEq] at H
            obtain ⟨rfl, rfl, rfl, rfl⟩ := H
            have p155 : 0 ≤ (0 : Int) := (by omega)
            have q155 : 0 < (l0.length : Int) := of_decide_eq_true (by first | (with_reducible assumption) | assumption)
            obtain ⟨ad155, A155_0, c155_0, A155_1, c155_1, A155_2, c155_2, e155, hx155_0, hx155_1, hx155_2, hl155_0, hi155_0, hl155_1, hi155_1, hl155_2, hi155_2⟩ := at_T72 (Kd.V_reads' HO0.out).2.2 0 p155 q155
            cases e155
            obtain ⟨ce155, hce155, hMe155, hcc155⟩ := Kd.V_get HO0.out z72 0 p155 (by first | exact q155 | exact of_decide_eq_true (by first | (with_reducible assumption) | assumption) | (have e_ := (Kd.V_reads' HO0.out).1; omega))
            obtain ⟨ua155_0, uc155_0, ua155_1, uc155_1, ua155_2, uc155_2, rfl, ul155_0, ge155_0, ul155_1, ge155_1, ul155_2, ge155_2⟩ := k72_openF hMe155
            have hv155_0 := hcc155 0 _ rfl
            rw [Nat.add_zero] at hv155_0
            replace hv155_0 := Option.some.inj (hv155_0.symm.trans hx155_0)
            injection hv155_0 with hva_ hvn_ hvc_
            rw [hva_] at ge155_0
            rw [hvc_] at ul155_0
            have HL155_0 := Aside0.mk (show Kd.V (Kd.int .u8) 5 _ w.heap.size _ _ ((rd_T72 l0 0).f0) from Kd.V_mk ul155_0 ge155_0)
            clear hva_ hvn_ hvc_ ge155_0 ul155_0
            have hv155_1 := hcc155 1 _ rfl
            rw [add_field _ _ 1 (by omega)] at hv155_1
            replace hv155_1 := Option.some.inj (hv155_1.symm.trans hx155_1)
            injection hv155_1 with hva_ hvn_ hvc_
            rw [hva_] at ge155_1
            rw [hvc_] at ul155_1
            have HL155_1 := Aside0.mk (show Kd.V k38 38 _ w.heap.size _ _ ((rd_T72 l0 0).f1) from Kd.V_mk ul155_1 ge155_1)
            clear hva_ hvn_ hvc_ ge155_1 ul155_1
            have hv155_2 := hcc155 2 _ rfl
            rw [add_field _ _ 2 (by omega)] at hv155_2
            replace hv155_2 := Option.some.inj (hv155_2.symm.trans hx155_2)
            injection hv155_2 with hva_ hvn_ hvc_
            rw [hva_] at ge155_2
            rw [hvc_] at ul155_2
            have HL155_2 := Aside0.mk (show Kd.V k44 44 _ w.heap.size _ _ ((rd_T72 l0 0).f2.f0) from Kd.V_mk ul155_2 ge155_2)
            clear hva_ hvn_ hvc_ ge155_2 ul155_2
            clear hcc155 hce155
            have qi155 : (0 < l0.length) = True := eq_true (by omega)
            (try rw [show ((0 : Int)).toNat = 0 from rfl] at hx155_0)
            (try rw [show 0 * 3 = 0 from rfl] at hx155_0)
            (try rw [Addr.add_zero'] at hx155_0)
            (try rw [show ((0 : Int)).toNat = 0 from rfl] at hx155_1)
            (try rw [show 0 * 3 = 0 from rfl] at hx155_1)
            (try rw [Addr.add_zero'] at hx155_1)
            (try rw [show ((0 : Int)).toNat = 0 from rfl] at hx155_2)
            (try rw [show 0 * 3 = 0 from rfl] at hx155_2)
            (try rw [Addr.add_zero'] at hx155_2)
            have HR155_0 := Aside0.mk hi155_0
            have HC155_0 := Aside0.mk hl155_0
            clear hi155_0 hl155_0
            have HR155_1 := Aside0.mk hi155_1
            have HC155_1 := Aside0.mk hl155_1
            clear hi155_1 hl155_1
            have HR155_2 := Aside0.mk hi155_2
            have HC155_2 := Aside0.mk hl155_2
            clear hi155_2 hl155_2
            replace p155 := eq_true p155
            replace q155 := eq_true q155
            go_enter Try.func37, Try.ntmps37
            go_wp2_with (first | ((with_reducible refine gate_dst (N := 4) rfl ?_); (try (refine gate_guard (by rfl) ?_; dsimp only)); refine box_event ?hg (N := 4) ?hd (cs := #[.int .i64 0, .int .i64 0, .int .i64 0, .slice none 0 0]) (t := 44) ?hr ?_; (case hd => rfl); (case hg => rfl); (case hr => first | (go_simp; done) | (go_simp; rfl)); intro gb156 hg w12 hbox hb; have n0_ := Aside0.mk (Kd.V_below (Kd.V_elderB (by (with_reducible repeat (first | apply Kd.V_alloc | apply Kd.V_drewN | apply Kd.V_drew)); exact HO0.out) gb156 (Nat.le_of_eq hg.symm)) hb); have n1_ := Aside0.mk (Kd.V_below (Kd.V_elderB (by (with_reducible repeat (first | apply Kd.V_alloc | apply Kd.V_drewN | apply Kd.V_drew)); exact HL155_0.out) gb156 (Nat.le_of_eq hg.symm)) hb); have n2_ := Aside0.mk (Kd.V_below (Kd.V_elderB (by (with_reducible repeat (first | apply Kd.V_alloc | apply Kd.V_drewN | apply Kd.V_drew)); exact HL155_1.out) gb156 (Nat.le_of_eq hg.symm)) hb); have n3_ := Aside0.mk (Kd.V_below (Kd.V_elderB (by (with_reducible repeat (first | apply Kd.V_alloc | apply Kd.V_drewN | apply Kd.V_drew)); exact HL155_2.out) gb156 (Nat.le_of_eq hg.symm)) hb); have n4_ := Aside0.mk (Kd.C_below (by repeat (first | (with_reducible exact HR155_0.out) | (with_reducible refine Kd.C_alloc ?_ _) | (with_reducible refine Kd.C_drewN ?_ _) | (with_reducible refine Kd.C_drew ?_) | exact HR155_0.out)) hb); have n5_ := Aside0.mk (Kd.C_below (by repeat (first | (with_reducible exact HR155_1.out) | (with_reducible refine Kd.C_alloc ?_ _) | (with_reducible refine Kd.C_drewN ?_ _) | (with_reducible refine Kd.C_drew ?_) | exact HR155_1.out)) hb); have n6_ := Aside0.mk (Kd.C_below (by repeat (first | (with_reducible exact HR155_2.out) | (with_reducible refine Kd.C_alloc ?_ _) | (with_reducible refine Kd.C_drewN ?_ _) | (with_reducible refine Kd.C_drew ?_) | exact HR155_2.out)) hb); have n7_ := Aside0.mk (below_step (by repeat (first | (with_reducible first | exact HB.out | apply below_alloc | apply pw_below_drewN | apply below_drew1) | exact HB.out)) hb); have n8_ := Aside0.mk (hbox); have n9_ := Aside0.mk ((by rw [hg]; exact (below_size (by repeat (first | (with_reducible first | exact HB.out | apply below_alloc | apply pw_below_drewN | apply below_drew1) | exact HB.out))) : w.heap.size ≤ gb156)); have n10_ := Aside0.mk ((by rw [hg]; exact (below_size (by repeat (first | (with_reducible first | exact HB.out | apply below_alloc | apply pw_below_drewN | apply below_drew1) | exact HB.out))) : w.heap.size ≤ gb156)); clear HO0; clear HL155_0; clear HL155_1; clear HL155_2; clear HR155_0; clear HR155_1; clear HR155_2; clear HB; have HO0 := n0_; have HL155_0 := n1_; have HL155_1 := n2_; have HL155_2 := n3_; have HR155_0 := n4_; have HR155_1 := n5_; have HR155_2 := n6_; have HB := n7_; have BK156 := n8_; have GW156 := n9_; have GE156 := n10_; clear n0_ n1_ n2_ n3_ n4_ n5_ n6_ n7_ n8_ n9_ n10_; clear hb hbox hg; have p157 : 0 ≤ (0 : Int) := (by omega); have q157 : 0 < (l0.length : Int) := of_decide_eq_true (by first | (with_reducible assumption) | assumption); obtain ⟨ad157, A157_0, c157_0, A157_1, c157_1, A157_2, c157_2, e157, hx157_0, hx157_1, hx157_2, hl157_0, hi157_0, hl157_1, hi157_1, hl157_2, hi157_2⟩ := at_T72 (Kd.V_reads' HO0.out).2.2 0 p157 q157; obtain rfl : ad155 = ad157 := (by injection e157); obtain ⟨ce157, hce157, hMe157, hcc157⟩ := Kd.V_get HO0.out z72 0 p157 (by first | exact q157 | exact of_decide_eq_true (by first | (with_reducible assumption) | assumption) | (have e_ := (Kd.V_reads' HO0.out).1; omega)); obtain ⟨ua157_0, uc157_0, ua157_1, uc157_1, ua157_2, uc157_2, rfl, ul157_0, ge157_0, ul157_1, ge157_1, ul157_2, ge157_2⟩ := k72_openF hMe157; have hv157_0 := hcc157 0 _ rfl; rw [Nat.add_zero] at hv157_0; replace hv157_0 := Option.some.inj (hv157_0.symm.trans hx157_0); injection hv157_0 with hva_ hvn_ hvc_; rw [hva_] at ge157_0; rw [hvc_] at ul157_0; have HL157_0 := Aside0.mk (show Kd.V (Kd.int .u8) 5 _ w.heap.size _ _ ((rd_T72 l0 0).f0) from Kd.V_mk ul157_0 ge157_0); clear hva_ hvn_ hvc_ ge157_0 ul157_0; have hv157_1 := hcc157 1 _ rfl; rw [add_field _ _ 1 (by omega)] at hv157_1; replace hv157_1 := Option.some.inj (hv157_1.symm.trans hx157_1); injection hv157_1 with hva_ hvn_ hvc_; rw [hva_] at ge157_1; rw [hvc_] at ul157_1; have HL157_1 := Aside0.mk (show Kd.V k38 38 _ w.heap.size _ _ ((rd_T72 l0 0).f1) from Kd.V_mk ul157_1 ge157_1); clear hva_ hvn_ hvc_ ge157_1 ul157_1; have hv157_2 := hcc157 2 _ rfl; rw [add_field _ _ 2 (by omega)] at hv157_2; replace hv157_2 := Option.some.inj (hv157_2.symm.trans hx157_2); injection hv157_2 with hva_ hvn_ hvc_; rw [hva_] at ge157_2; rw [hvc_] at ul157_2; have HL157_2 := Aside0.mk (show Kd.V k44 44 _ w.heap.size _ _ ((rd_T72 l0 0).f2.f0) from Kd.V_mk ul157_2 ge157_2); clear hva_ hvn_ hvc_ ge157_2 ul157_2; clear hcc157 hce157; have qi157 : (0 < l0.length) = True := eq_true (by omega); (try rw [show ((0 : Int)).toNat = 0 from rfl] at hx157_0); (try rw [show 0 * 3 = 0 from rfl] at hx157_0); (try rw [Addr.add_zero'] at hx157_0); (try rw [show ((0 : Int)).toNat = 0 from rfl] at hx157_1); (try rw [show 0 * 3 = 0 from rfl] at hx157_1); (try rw [Addr.add_zero'] at hx157_1); (try rw [show ((0 : Int)).toNat = 0 from rfl] at hx157_2); (try rw [show 0 * 3 = 0 from rfl] at hx157_2); (try rw [Addr.add_zero'] at hx157_2); have HR157_0 := Aside0.mk hi157_0; have HC157_0 := Aside0.mk hl157_0; clear hi157_0 hl157_0; have HR157_1 := Aside0.mk hi157_1; have HC157_1 := Aside0.mk hl157_1; clear hi157_1 hl157_1; have HR157_2 := Aside0.mk hi157_2; have HC157_2 := Aside0.mk hl157_2; clear hi157_2 hl157_2; replace p157 := eq_true p157; replace q157 := eq_true q157; have p158 : 0 ≤ (0 : Int) := (by omega); have q158 : 0 < (l0.length : Int) := of_decide_eq_true (by first | (with_reducible assumption) | assumption); obtain ⟨ad158, A158_0, c158_0, A158_1, c158_1, A158_2, c158_2, e158, hx158_0, hx158_1, hx158_2, hl158_0, hi158_0, hl158_1, hi158_1, hl158_2, hi158_2⟩ := at_T72 (Kd.V_reads' HO0.out).2.2 0 p158 q158; obtain rfl : ad155 = ad158 := (by injection e158); obtain ⟨ce158, hce158, hMe158, hcc158⟩ := Kd.V_get HO0.out z72 0 p158 (by first | exact q158 | exact of_decide_eq_true (by first | (with_reducible assumption) | assumption) | (have e_ := (Kd.V_reads' HO0.out).1; omega)); obtain ⟨ua158_0, uc158_0, ua158_1, uc158_1, ua158_2, uc158_2, rfl, ul158_0, ge158_0, ul158_1, ge158_1, ul158_2, ge158_2⟩ := k72_openF hMe158; have hv158_0 := hcc158 0 _ rfl; rw [Nat.add_zero] at hv158_0; replace hv158_0 := Option.some.inj (hv158_0.symm.trans hx158_0); injection hv158_0 with hva_ hvn_ hvc_; rw [hva_] at ge158_0; rw [hvc_] at ul158_0; have HL158_0 := Aside0.mk (show Kd.V (Kd.int .u8) 5 _ w.heap.size _ _ ((rd_T72 l0 0).f0) from Kd.V_mk ul158_0 ge158_0); clear hva_ hvn_ hvc_ ge158_0 ul158_0; have hv158_1 := hcc158 1 _ rfl; rw [add_field _ _ 1 (by omega)] at hv158_1; replace hv158_1 := Option.some.inj (hv158_1.symm.trans hx158_1); injection hv158_1 with hva_ hvn_ hvc_; rw [hva_] at ge158_1; rw [hvc_] at ul158_1; have HL158_1 := Aside0.mk (show Kd.V k38 38 _ w.heap.size _ _ ((rd_T72 l0 0).f1) from Kd.V_mk ul158_1 ge158_1); clear hva_ hvn_ hvc_ ge158_1 ul158_1; have hv158_2 := hcc158 2 _ rfl; rw [add_field _ _ 2 (by omega)] at hv158_2; replace hv158_2 := Option.some.inj (hv158_2.symm.trans hx158_2); injection hv158_2 with hva_ hvn_ hvc_; rw [hva_] at ge158_2; rw [hvc_] at ul158_2; have HL158_2 := Aside0.mk (show Kd.V k44 44 _ w.heap.size _ _ ((rd_T72 l0 0).f2.f0) from Kd.V_mk ul158_2 ge158_2); clear hva_ hvn_ hvc_ ge158_2 ul158_2; clear hcc158 hce158; have qi158 : (0 < l0.length) = True := eq_true (by omega); (try rw [show ((0 : Int)).toNat = 0 from rfl] at hx158_0); (try rw [show 0 * 3 = 0 from rfl] at hx158_0); (try rw [Addr.add_zero'] at hx158_0); (try rw [show ((0 : Int)).toNat = 0 from rfl] at hx158_1); (try rw [show 0 * 3 = 0 from rfl] at hx158_1); (try rw [Addr.add_zero'] at hx158_1); (try rw [show ((0 : Int)).toNat = 0 from rfl] at hx158_2); (try rw [show 0 * 3 = 0 from rfl] at hx158_2); (try rw [Addr.add_zero'] at hx158_2); have HR158_0 := Aside0.mk hi158_0; have HC158_0 := Aside0.mk hl158_0; clear hi158_0 hl158_0; have HR158_1 := Aside0.mk hi158_1; have HC158_1 := Aside0.mk hl158_1; clear hi158_1 hl158_1; have HR158_2 := Aside0.mk hi158_2; have HC158_2 := Aside0.mk hl158_2; clear hi158_2 hl158_2; replace p158 := eq_true p158; replace q158 := eq_true q158; have ea_ := Option.some.inj (hx157_0.symm.trans hx158_0); injection ea_ with ea_ en_ ec_; subst ea_; subst ec_; clear en_; have ea_ := Option.some.inj (hx157_1.symm.trans hx158_1); injection ea_ with ea_ en_ ec_; subst ea_; subst ec_; clear en_; have ea_ := Option.some.inj (hx157_2.symm.trans hx158_2); injection ea_ with ea_ en_ ec_; subst ea_; subst ec_; clear en_; have p159 : 0 ≤ (a1 : Int) := of_decide_eq_true (by first | (with_reducible assumption) | assumption); have q159 : a1 < (((rd_T72 l0 0).f2.f0).length : Int) := of_decide_eq_true (by first | (with_reducible assumption) | assumption); obtain ⟨ad159, A159_3, c159_3, e159, hx159_0, hx159_1, hx159_2, hx159_3, hl159_3, hi159_3⟩ := at_T44 (by repeat (first | (with_reducible exact HR158_2.out) | (with_reducible refine Kd.C_alloc ?_ _) | (with_reducible refine Kd.C_drewN ?_ _) | (with_reducible refine Kd.C_drew ?_) | exact HR158_2.out)) a1 p159 q159; cases e159; obtain ⟨ce159, hce159, hMe159, hcc159⟩ := Kd.V_get HL158_2.out z44 a1 p159 (by first | exact q159 | exact of_decide_eq_true (by first | (with_reducible assumption) | assumption) | (have e_ := (Kd.V_reads' HL158_2.out).1; omega)); obtain ⟨ua159_3, uc159_3, rfl, ul159_3, ge159_3⟩ := k44_openF hMe159; have hv159_3 := hcc159 3 _ rfl; rw [add_field _ _ 3 (by omega)] at hv159_3; replace hv159_3 := Option.some.inj (hv159_3.symm.trans hx159_3); injection hv159_3 with hva_ hvn_ hvc_; rw [hva_] at ge159_3; rw [hvc_] at ul159_3; have HL159_3 := Aside0.mk (show Kd.V (Kd.int .i64) 3 _ w.heap.size _ _ ((rd_T44 ((rd_T72 l0 0).f2.f0) a1).f3) from Kd.V_mk ul159_3 ge159_3); clear hva_ hvn_ hvc_ ge159_3 ul159_3; clear hcc159 hce159; have HR159_3 := Aside0.mk hi159_3; have HC159_3 := Aside0.mk hl159_3; clear hi159_3 hl159_3; replace p159 := eq_true p159; replace q159 := eq_true q159; have hcz13_0 : w12.cell? ⟨gb156, 0, none⟩ = some (.int .i64 0) := (blk_cell BK156.out 0).trans rfl; have hcz13_1 : w12.cell? ⟨gb156, 1, none⟩ = some (.int .i64 0) := (blk_cell BK156.out 1).trans rfl; have hcz13_2 : w12.cell? ⟨gb156, 2, none⟩ = some (.int .i64 0) := (blk_cell BK156.out 2).trans rfl; have hcz13_3 : w12.cell? ⟨gb156, 3, none⟩ = some (.slice none 0 0) := (blk_cell BK156.out 3).trans rfl; have hfz13_0 := blk_frozen BK156.out 0; have hfz13_1 := blk_frozen BK156.out 1; have hfz13_2 := blk_frozen BK156.out 2; have hfz13_3 := blk_frozen BK156.out 3))
            refine bodyPost_ret (results_cell_row rfl _ _ gb156 44 #[.int .i64 ((rd_T44 ((rd_T72 l0 0).f2.f0) a1).f0), .int .i64 ((rd_T44 ((rd_T72 l0 0).f2.f0) a1).f1), .int .i64 ((rd_T44 ((rd_T72 l0 0).f2.f0) a1).f2), .slice A159_3 ((rd_T44 ((rd_T72 l0 0).f2.f0) a1).f3).length c159_3] (0, 0) _ rfl (by (with_reducible repeat (first | refine blk_drewN ?_ _ | refine blk_drew ?_ | refine blk_alloc ?_ _)); refine blk_put (cs := #[.int .i64 ((rd_T44 ((rd_T72 l0 0).f2.f0) a1).f0), .int .i64 ((rd_T44 ((rd_T72 l0 0).f2.f0) a1).f1), .int .i64 ((rd_T44 ((rd_T72 l0 0).f2.f0) a1).f2), .slice none 0 0]) ?_ 3 _ rfl; (with_reducible repeat (first | refine blk_drewN ?_ _ | refine blk_drew ?_ | refine blk_alloc ?_ _)); refine blk_put (cs := #[.int .i64 ((rd_T44 ((rd_T72 l0 0).f2.f0) a1).f0), .int .i64 ((rd_T44 ((rd_T72 l0 0).f2.f0) a1).f1), .int .i64 0, .slice none 0 0]) ?_ 2 _ rfl; (with_reducible repeat (first | refine blk_drewN ?_ _ | refine blk_drew ?_ | refine blk_alloc ?_ _)); refine blk_put (cs := #[.int .i64 ((rd_T44 ((rd_T72 l0 0).f2.f0) a1).f0), .int .i64 0, .int .i64 0, .slice none 0 0]) ?_ 1 _ rfl; (with_reducible repeat (first | refine blk_drewN ?_ _ | refine blk_drew ?_ | refine blk_alloc ?_ _)); refine blk_put (cs := #[.int .i64 0, .int .i64 0, .int .i64 0, .slice none 0 0]) ?_ 0 _ rfl; (with_reducible repeat (first | refine blk_drewN ?_ _ | refine blk_drew ?_ | refine blk_alloc ?_ _)); exact BK156.out) Try.underlying44 rfl (by kernel_rfl)) rfl ?_
            exact ⟨_, by first | rfl | (simp [errW_none, errW_some, erT_no, erV_no, erT_at, erV_at] <;> rfl) | (simp [*, errW_none, errW_some, erT_no, erV_no, erT_at, erV_at] <;> rfl), by (with_reducible repeat (first | apply Kd.V_alloc | apply Kd.V_drewN | apply Kd.V_drew)); exact Kd.V_mono (Kd.V_far (p := ⟨gb156, 3, none⟩) (Kd.V_far (p := ⟨gb156, 2, none⟩) (Kd.V_far (p := ⟨gb156, 1, none⟩) (Kd.V_far (p := ⟨gb156, 0, none⟩) (Kd.V_mono HL159_3.out (fun k_ hk => (⟨hk, hk.2⟩ : _ ∧ k_ ≠ gb156))) (fun _ hk => hk.2) (.int .i64 ((rd_T44 ((rd_T72 l0 0).f2.f0) a1).f0))) (fun _ hk => hk.2) (.int .i64 ((rd_T44 ((rd_T72 l0 0).f2.f0) a1).f1))) (fun _ hk => hk.2) (.int .i64 ((rd_T44 ((rd_T72 l0 0).f2.f0) a1).f2))) (fun _ hk => hk.2) (.slice A159_3 ((rd_T44 ((rd_T72 l0 0).f2.f0) a1).f3).length c159_3)) (fun _ hk => hk.1.1), by repeat (first | (with_reducible first | exact HB.out | apply below_alloc | apply pw_below_drewN | apply below_drew1 | refine below_set ?_ GE156.out) | exact HB.out)⟩
          · rw [if_neg c11] at H
            exact absurd H (by simp)
        · rw [if_neg c10] at H
          exact absurd H (by simp)
  · rw [if_neg c3] at H
    exact absurd H (by simp)

/-! ### view_File_Node_nil: function 37 -/
def view_File_Node_nil.f (a0 : Unit) (a1 : Int) : Option (Int × Int × Int × List Int) := some (0, 0, 0, ([] : List Int))
set_option maxHeartbeats 8000000 in
set_option maxRecDepth 100000 in
theorem view_File_Node_nil.calls (a0 : Unit) (a1 : Int) (r1 : Int) (r2 : Int) (r3 : Int) (r4 : List Int) (w : World) (h : view_File_Node_nil.f a0 a1 = some (r1, r2, r3, r4)) :
    Calls Try.prog 37 #[.pointer none, .int .i64 a1] w fun e w' => ∃ v3_ : Value, e = .returned (.agg #[.int .i64 r1, .int .i64 r2, .int .i64 r3, v3_]) ∧ Kd.R (Kd.int .i64) 3 w' w.heap.size (fun _ => True) v3_ r4 ∧ Below w.heap.size w w' := by
  have hu44 := Try.underlying44
  have HB := Aside0.mk (Below.refl w.heap.size w)
  have H : (some (0, 0, 0, ([] : List Int))) = some (r1, r2, r3, r4) := h
  clear h
  simp only [Option.some.injEq, Prod.mk.injEq] at H
  obtain ⟨rfl, rfl, rfl, rfl⟩ := H
  go_enter Try.func37, Try.ntmps37
  go_wp2_with (first | ((with_reducible refine gate_dst (N := 4) rfl ?_); (try (refine gate_guard (by rfl) ?_; dsimp only)); refine box_event ?hg (N := 4) ?hd (cs := #[.int .i64 0, .int .i64 0, .int .i64 0, .slice none 0 0]) (t := 44) ?hr ?_; (case hd => rfl); (case hg => rfl); (case hr => first | (go_simp; done) | (go_simp; rfl)); intro gb160 hg w3 hbox hb; have n0_ := Aside0.mk (below_step (by repeat (first | (with_reducible first | exact HB.out | apply below_alloc | apply pw_below_drewN | apply below_drew1) | exact HB.out)) hb); have n1_ := Aside0.mk (hbox); have n2_ := Aside0.mk ((by rw [hg]; exact (below_size (by repeat (first | (with_reducible first | exact HB.out | apply below_alloc | apply pw_below_drewN | apply below_drew1) | exact HB.out))) : w.heap.size ≤ gb160)); have n3_ := n2_; clear HB; have HB := n0_; have BK160 := n1_; have GW160 := n2_; have GE160 := n3_; clear n0_ n1_ n2_ n3_; clear hb hbox hg; have hcz4_0 : w3.cell? ⟨gb160, 0, none⟩ = some (.int .i64 0) := (blk_cell BK160.out 0).trans rfl; have hcz4_1 : w3.cell? ⟨gb160, 1, none⟩ = some (.int .i64 0) := (blk_cell BK160.out 1).trans rfl; have hcz4_2 : w3.cell? ⟨gb160, 2, none⟩ = some (.int .i64 0) := (blk_cell BK160.out 2).trans rfl; have hcz4_3 : w3.cell? ⟨gb160, 3, none⟩ = some (.slice none 0 0) := (blk_cell BK160.out 3).trans rfl; have hfz4_0 := blk_frozen BK160.out 0; have hfz4_1 := blk_frozen BK160.out 1; have hfz4_2 := blk_frozen BK160.out 2; have hfz4_3 := blk_frozen BK160.out 3))
  refine bodyPost_ret (results_cell_row rfl _ _ gb160 44 #[.int .i64 0, .int .i64 0, .int .i64 0, .slice none 0 0] (0, 0) _ rfl (by (with_reducible repeat (first | refine blk_drewN ?_ _ | refine blk_drew ?_ | refine blk_alloc ?_ _)); refine blk_put (cs := #[.int .i64 0, .int .i64 0, .int .i64 0, .slice none 0 0]) ?_ 3 _ rfl; (with_reducible repeat (first | refine blk_drewN ?_ _ | refine blk_drew ?_ | refine blk_alloc ?_ _)); refine blk_put (cs := #[.int .i64 0, .int .i64 0, .int .i64 0, .slice none 0 0]) ?_ 2 _ rfl; (with_reducible repeat (first | refine blk_drewN ?_ _ | refine blk_drew ?_ | refine blk_alloc ?_ _)); refine blk_put (cs := #[.int .i64 0, .int .i64 0, .int .i64 0, .slice none 0 0]) ?_ 1 _ rfl; (with_reducible repeat (first | refine blk_drewN ?_ _ | refine blk_drew ?_ | refine blk_alloc ?_ _)); refine blk_put (cs := #[.int .i64 0, .int .i64 0, .int .i64 0, .slice none 0 0]) ?_ 0 _ rfl; (with_reducible repeat (first | refine blk_drewN ?_ _ | refine blk_drew ?_ | refine blk_alloc ?_ _)); exact BK160.out) Try.underlying44 rfl (by kernel_rfl)) rfl ?_
  exact ⟨_, by first | rfl | (simp [errW_none, errW_some, erT_no, erV_no, erT_at, erV_at] <;> rfl) | (simp [*, errW_none, errW_some, erT_no, erV_no, erT_at, erV_at] <;> rfl), by first | exact Kd.R_nil _ _ _ _ _ | exact Kd.N_nil _ _ _ _ _ | exact Kd.V_nil _ _ _ _ _ | exact Kd.Q_nil _ _ _ _ _ | exact Kd.S_nil _ _ _ _ _, by repeat (first | (with_reducible first | exact HB.out | apply below_alloc | apply pw_below_drewN | apply below_drew1 | refine below_set ?_ GE160.out) | exact HB.out)⟩

/-! ### view_File_Own: function 38 -/
/-- d tokens from one on, behind those so far. -/
def view_File_Own.upto : Nat → List Int → Int → Option (List Int)
  | 0, s, _ => some s
  | d + 1, s, a => if s.length < 17592186044416 ∧ -4611686018427387904 ≤ a ∧ a ≤ 4611686018427387904 then view_File_Own.upto d (s ++ [a]) (a + 1) else none
/-- The tokens so far lie in a row of the call's own, which the variable of block g holds. -/
def view_File_Own.J (B g : Nat) (N : Nat → Prop) (s : List Int) (W : World) : Prop :=
  ∃ v : Value, W.heap[g]? = some (.cells #[v] 42 (0, 0)) ∧ (Kd.int .i64).R 3 W B (fun k => k ≠ g ∧ ¬ N k) v s
theorem view_File_Own.below {B g : Nat} {N : Nat → Prop} {s : List Int} {W W' : World} (h : view_File_Own.J B g N s W) (hb : Below W.heap.size W W') : view_File_Own.J B g N s W' := by
  obtain ⟨v, h1, h2⟩ := h
  exact ⟨v, blk_below h1 hb, Kd.R_below h2 hb⟩
theorem view_File_Own.set {B g : Nat} {N : Nat → Prop} {s : List Int} {W : World} (hg : ¬ N g) (k j : Nat) (u : Value) (hk : N k) (h : view_File_Own.J B g N s W) : view_File_Own.J B g N s (W.setCell ⟨k, j, none⟩ u) := by
  obtain ⟨v, h2, h3⟩ := h
  exact ⟨v, blk_far h2 (p := ⟨k, j, none⟩) (fun e => by subst e; exact hg hk) _, Kd.R_keep (g := k) h3 ((KeepBut.refl _ _ _).set_ j _) (fun q hq e => by subst e; exact hq.2 hk)⟩
set_option maxHeartbeats 4000000 in
set_option maxRecDepth 100000 in
theorem view_File_Own.upto_calls {w0 : World} {B ga g : Nat} {N : Nat → Prop} (hBa : B ≤ ga) (hBg : B ≤ g) (hna : N ga) (hng : ¬ N g) (d : Nat) (s : List Int) (a en : Int) (s' : List Int) (W : World) (h : view_File_Own.upto d s a = some s') (hd : d = (en - a).toNat)
    (hga : W.heap[ga]? = some (.cells #[.int .i64 a] 3 (0, 0))) (hlt : ∀ k, N k → k < W.heap.size) (hJ : view_File_Own.J B g N s W) (hw : Below B w0 W) :
    Calls Try.prog 47 #[.int .i64 en, .pointer (some ⟨ga, 0, none⟩), .pointer (some ⟨g, 0, none⟩)] W fun e W' => e = .returned (.tuple #[]) ∧ view_File_Own.J B g N s' W' ∧ Below B w0 W' ∧ (∃ m : Int, W'.heap[ga]? = some (.cells #[.int .i64 m] 3 (0, 0))) ∧ (∀ k, N k → k ≠ ga → W'.heap[k]? = W.heap[k]?) := by
  have ne : ga ≠ g := fun e => by subst e; exact hng hna
  have ne' : g ≠ ga := ne.symm
  have HA := Aside0.mk hga
  have HL := Aside0.mk hlt
  have HJ := Aside0.mk hJ
  have HW := Aside0.mk hw
  have HU := Aside0.mk h
  have HD := Aside0.mk hd
  have NA := Aside0.mk hna
  have NG := Aside0.mk hng
  clear hga hJ hw h hd hna hng hlt
  go_enter Try.func47, Try.ntmps47
  go_wp2
  go_loopg [] d (fun dq w' => ∃ (s1 : List Int) (a1 : Int), Aside0 (view_File_Own.upto dq s1 a1 = some s') ∧ Aside0 (dq = (en - a1).toNat) ∧ Aside0 (w'.heap[ga]? = some (.cells #[.int .i64 a1] 3 (0, 0))) ∧ Aside0 (∀ k, N k → k ≠ ga → w'.heap[k]? = W.heap[k]?) ∧ Aside0 (∀ k, N k → k < w'.heap.size) ∧ Aside0 (view_File_Own.J B g N s1 w') ∧ Aside0 (Below B w0 w'))
  case atStart => exact ⟨s, a, HU, HD, HA, ⟨fun _ _ _ => rfl⟩, HL, HJ, HW⟩
  case round =>
    clear HA HJ HW HU HD HL
    obtain ⟨s1, a1, HU, HD, HA, HK, HL, HJ, HW⟩ := hrel
    have qa := blk_cell HA.out 0
    simp only [List.getElem?_toArray, List.getElem?_cons_zero] at qa
    by_cases c : a1 < en
    · have c0 : decide (a1 < en) = true := decide_eq_true c
      have C := Aside0.mk c
      clear c
      obtain ⟨k1, hk1⟩ : ∃ k1, gk = k1 + 1 := ⟨gk - 1, by have := HD.out; have := C.out; omega⟩
      subst hk1
      have hu := HU.out
      simp only [view_File_Own.upto] at hu
      by_cases cb : s1.length < 17592186044416 ∧ -4611686018427387904 ≤ a1 ∧ a1 ≤ 4611686018427387904
      case neg => rw [if_neg cb] at hu; cases hu
      rw [if_pos cb] at hu
      have CB := Aside0.mk cb
      have HU2 := Aside0.mk hu
      clear cb hu HU
      obtain ⟨v, h1, h2⟩ := HJ.out
      have q1 := blk_cell h1 0
      simp only [List.getElem?_toArray, List.getElem?_cons_zero] at q1
      have H1 := Aside0.mk h1
      have H2 := Aside0.mk h2
      clear h1 h2
      go_wp2_with (first
        | ((with_reducible refine gate_builtin (b := .append) (xs := #[.tmp 9, .tmp 11]) rfl ?_); at_builtin; refine Kd.R_append (Kd.int .i64) (w0 := w0) B rfl (.tmp 9) (.tmp 11) 42 3 (.int .i64 0) 8 rfl Try.underlying42 info3 rfl (by decide) (by omega) v s1 a1 [.int .i64 a1] (fun k => k ≠ g ∧ ¬ N k) (fun _ => False) rfl rfl rfl (fun _ hk => hk.elim) (fun k hk => ⟨by have := blk_lt H1.out; omega, fun hk' => by have := HL.out k hk'; omega⟩) H2.out HW.out (Nat.le_trans hBa (Nat.le_of_lt (blk_lt HA.out))) (by have := CB.out; omega) ?_; intro v1 w1 ho hb hgr hat; have g1 := (hgr.block g (blk_lt H1.out) (fun e_ => ((H2.out).1 g e_.symm).1 rfl)).trans H1.out; have a1' := (hgr.block ga (blk_lt HA.out) (fun e_ => ((H2.out).1 ga e_.symm).2 NA.out)).trans HA.out; have fz := blk_frozen g1 0; have qz := blk_cell g1 0; have fa := blk_frozen a1' 0; have qq := blk_cell a1' 0; simp only [List.getElem?_toArray, List.getElem?_cons_zero] at qz qq; have G1 := Aside0.mk g1; have A1 := Aside0.mk a1'; have HO := Aside0.mk ho; have HB := Aside0.mk hb; have GR := Aside0.mk hgr; obtain ⟨Av, cv, ev⟩ := Kd.R_slice ho; clear g1 a1' ho hb hgr hat; rw [List.length_append, List.length_singleton] at ev; subst ev))
      have ew : wrap64 (a1 + 1) = a1 + 1 := by have := CB.out; unfold wrap64; omega
      go_roundg k1
      case measure => omega
      case rel =>
        have kept0 : ∀ k, N k → k ≠ ga → ∀ u u', ((w1.setCell ⟨g, 0, none⟩ u).setCell ⟨ga, 0, none⟩ u').heap[k]? = wr.heap[k]? := fun k h0 h2 u u' => (Below.heap_setCell _ ⟨ga, 0, none⟩ _ k h2).trans ((Below.heap_setCell w1 ⟨g, 0, none⟩ _ k (fun e => by subst e; exact NG.out h0)).trans (GR.out.block k (HL.out k h0) (fun e_ => ((H2.out).1 k e_.symm).2 h0)))
        have hga2 : ∀ u u', ((w1.setCell ⟨g, 0, none⟩ u).setCell ⟨ga, 0, none⟩ u').heap[ga]? = some (.cells #[u'] 3 (0, 0)) := fun u u' => blk_put (blk_far A1.out (p := ⟨g, 0, none⟩) ne _) 0 _ rfl
        refine ⟨s1 ++ [a1], wrap64 (a1 + 1), ⟨by rw [ew]; exact HU2.out⟩, ⟨by rw [ew]; have := HD.out; have := C.out; omega⟩, ⟨hga2 _ _⟩, ⟨fun k h0 h2 => (kept0 k h0 h2 _ _).trans (HK.out k h0 h2)⟩, ⟨fun k h0 => ?_⟩, ⟨_, blk_far (blk_put G1.out 0 _ rfl) (p := ⟨ga, 0, none⟩) ne' _, ?_⟩, ⟨(HB.out.setCell (p := ⟨g, 0, none⟩) hBg _).setCell (p := ⟨ga, 0, none⟩) hBa _⟩⟩
        · by_cases e : k = ga
          · subst e
            exact blk_lt (hga2 _ _)
          · exact heap_lt (kept0 k h0 e _ _) (HL.out k h0)
        · exact Kd.R_keep (g := ga) (Kd.R_keep (g := g) HO.out ((KeepBut.refl _ _ _).set_ 0 _) (fun q hq => hq.1)) ((KeepBut.refl _ _ _).set_ 0 _) (fun q hq e => by subst e; exact hq.2 NA.out)
    · have c0 : decide (a1 < en) = false := decide_eq_false c
      have C := Aside0.mk c
      clear c
      go_wp2
      refine bodyPost_end (results_none rfl _ _ _) rfl ?_
      have hk0 : gk = 0 := by have := HD.out; have := C.out; omega
      subst hk0
      have e1 : s1 = s' := Option.some.inj HU.out
      subst e1
      exact ⟨rfl, HJ.out, HW.out, ⟨_, HA.out⟩, HK.out⟩
/-- The children from one on, and the tokens between and behind them. -/
def view_File_Own.run (l : List S72) : List Int → List Int → Int → Int → Option (List Int)
  | [], s, at_, to_ => view_File_Own.upto (to_ - at_).toNat s at_
  | k :: ks, s, at_, to_ => (view_File_Node.f l k).bind fun x => (view_File_Own.upto (x.2.1 - at_).toNat s at_).bind fun s1 => view_File_Own.run l ks s1 x.2.2.1 to_
def view_File_Own.f (l0 : List (S72)) (a1 : Int) : Option (List Int) := (view_File_Node.f l0 a1).bind fun x => view_File_Own.run l0 x.2.2.2 [] x.2.1 x.2.2.1
set_option maxHeartbeats 8000000 in
set_option maxRecDepth 100000 in
theorem view_File_Own.calls (A0 : Option Addr) (c0 : Nat) (l0 : List (S72)) (a1 : Int) (r : List Int) (w : World) (hr0 : Kd.C k72 w A0 l0.length l0) (hc0 : l0.length ≤ c0) (h : view_File_Own.f l0 a1 = some r) :
    Calls Try.prog 38 #[.pointer A0, .int .i64 a1] w fun e w' => ∃ v0_ : Value, e = .returned v0_ ∧ Kd.R (Kd.int .i64) 3 w' w.heap.size (fun _ => True) v0_ r ∧ Below w.heap.size w w' := by
  obtain ⟨⟨x1, x2, x3, x4⟩, hx, h⟩ := Option.bind_eq_some_iff.mp h
  have hu := Try.underlying44
  have AX := Aside0.mk hx
  have HH := Aside0.mk h
  have V0 := Aside0.mk (show Kd.V k72 72 w w.heap.size (fun k_ => k_ < w.heap.size) (.slice A0 l0.length c0) l0 from Kd.V_mk hc0 (Kd.C_F k72_heap hr0))
  clear hx h hr0 hc0
  go_enter Try.func38, Try.ntmps38
  go_wp2_with (first
    | (go_at_call 37; (refine (view_File_Node.calls (fun k_ => k_ < w.heap.size) A0 c0 l0 a1 x1 x2 x3 x4 _ V0.out AX.out).mono ?_); rintro e w2 ⟨v3, rfl, ho2, hb2⟩; obtain ⟨A3, c3, rfl, hl3, hf3⟩ := ho2; have B2 := Aside0.mk hb2; have C3 := Aside0.mk (Kd.F_now hf3); have V2 := Aside0.mk (Kd.V_mk (d := k72) (e := 72) (base := 0) (ok := fun _ => True) (Kd.V_at V0.out).2.1 (Kd.F_mono (Kd.F_below (Kd.V_at V0.out).2.2 hb2) (fun _ _ => trivial))); have L3 := Aside0.mk hl3; clear hb2 hf3 hl3)
    | ((with_reducible refine gate_dst (N := 5) rfl ?_); refine box_event ?hg (N := 5) ?hd (cs := #[.int .i64 0, .int .i64 0, .int .i64 0, .slice none 0 0]) (t := 44) ?hr ?_; (case hd => rfl); (case hg => rfl); (case hr => first | (go_simp; done) | (go_simp; rfl)); intro gx egx w3 hxx hbx; have X3 := Aside0.mk hxx; have B3 := Aside0.mk hbx; have GX := Aside0.mk (Nat.le_of_eq egx.symm); have q0 := blk_cell hxx 0; have q1 := blk_cell hxx 1; have q2 := blk_cell hxx 2; have q3 := blk_cell hxx 3; have z0 := blk_frozen hxx 0; have z1 := blk_frozen hxx 1; have z2 := blk_frozen hxx 2; have z3 := blk_frozen hxx 3; simp only [List.getElem?_toArray, List.getElem?_cons_zero, List.getElem?_cons_succ] at q0 q1 q2 q3; clear hxx hbx egx)
    | ((with_reducible refine gate_dst (N := 6) rfl ?_); refine box_event ?hg (N := 6) ?hd (cs := #[.slice none 0 0]) (t := 42) ?hr ?_; (case hd => rfl); (case hg => rfl); (case hr => first | (go_simp; done) | (go_simp; rfl)); intro g egg w4 hxg hbg; have hx4 : w4.heap[gx]? = some (.cells #[.int .i64 x1, .int .i64 x2, .int .i64 x3, .slice A3 x4.length c3] 44 (0, 0)) := blk_below (blk_put (blk_put (blk_put (blk_put X3.out 0 _ rfl) 1 _ rfl) 2 _ rfl) 3 _ rfl) hbg; have bs := (((B3.out.setCell (p := ⟨gx, 0, none⟩) GX.out (.int .i64 x1)).setCell (p := ⟨gx, 1, none⟩) GX.out (.int .i64 x2)).setCell (p := ⟨gx, 2, none⟩) GX.out (.int .i64 x3)).setCell (p := ⟨gx, 3, none⟩) GX.out (.slice A3 x4.length c3); have X4 := Aside0.mk hx4; have B4 := Aside0.mk (bs.trans (hbg.mono bs.size)); have GG := Aside0.mk (Nat.le_trans bs.size (Nat.le_of_eq egg.symm)); have G4 := Aside0.mk hxg; have nx := Aside0.mk (show gx ≠ g from fun e => by have h1 := blk_lt (blk_put (blk_put (blk_put (blk_put X3.out 0 (.int .i64 x1) rfl) 1 (.int .i64 x2) rfl) 2 (.int .i64 x3) rfl) 3 (.slice A3 x4.length c3) rfl); have h2 := Nat.le_of_eq egg.symm; omega); have q1' := blk_cell hx4 1; simp only [List.getElem?_toArray, List.getElem?_cons_zero, List.getElem?_cons_succ] at q1'; clear hxg hbg egg bs hx4 q0 q1 q2 q3 z0 z1 z2 z3)
    | ((with_reducible refine gate_dst (N := 7) rfl ?_); refine box_event ?hg (N := 7) ?hd (cs := #[.int .i64 0]) (t := 3) ?hr ?_; (case hd => rfl); (case hg => rfl); (case hr => first | (go_simp; done) | (go_simp; rfl)); intro ga ega w5 hxa hba; have hx5 := blk_below X4.out hba; have hg5 := blk_below G4.out hba; have na : ga ≠ g := fun e => by { have h1 := blk_lt G4.out; have h2 := ega; omega }; have nb : ga ≠ gx := fun e => by { have h1 := blk_lt X4.out; have h2 := ega; omega }; have nb' : gx ≠ ga := nb.symm; have X5 := Aside0.mk hx5; have G5 := Aside0.mk hg5; have A5 := Aside0.mk hxa; have B5 := Aside0.mk (B4.out.trans (hba.mono B4.out.size)); have GA := Aside0.mk (Nat.le_trans B4.out.size (Nat.le_of_eq ega.symm)); have q5 := blk_cell hxa 0; have z5 := blk_frozen hxa 0; have q53 := blk_cell hx5 3; simp only [List.getElem?_toArray, List.getElem?_cons_zero, List.getElem?_cons_succ] at q5 q53; clear hx5 hg5 hxa hba q1' ega))
  obtain ⟨N, hN⟩ : ∃ N : Nat → Prop, N = fun k => k = ga ∨ k = gx := ⟨_, rfl⟩
  have NA := Aside0.mk (show N ga by rw [hN]; exact .inl rfl)
  have NX := Aside0.mk (show N gx by rw [hN]; exact .inr rfl)
  have NG := Aside0.mk (show ¬ N g by { rw [hN]; intro h; exact Or.elim h (fun h => na h.symm) (fun h => nx.out h.symm) })
  have NE := Aside0.mk (show ∀ k, N k → k = ga ∨ k = gx by { intro k h; rw [hN] at h; exact h })
  clear hN
  have HKL := Aside0.mk (show x4.length ≤ 9223372036854775807 from C3.out.2.1)
  have hfd1 : ∀ (a b c d : Value) (W_ : World), (Instr.field 44 (.agg #[a, b, c, d]) 1).run Try.prog W_ = .ok b W_ := fun _ _ _ _ _ => by kernel_rfl
  have hfd2 : ∀ (a b c d : Value) (W_ : World), (Instr.field 44 (.agg #[a, b, c, d]) 2).run Try.prog W_ = .ok c W_ := fun _ _ _ _ _ => by kernel_rfl
  have hJset : ∀ (s : List Int) (W : World) (u : Value), view_File_Own.J w2.heap.size g N s W → view_File_Own.J w2.heap.size g N s (W.setCell ⟨ga, 0, none⟩ u) := fun s W u h => view_File_Own.set NG.out ga 0 u NA.out h
  have JS := Aside0.mk hJset
  have W2 := Aside0.mk (show ∀ W, Below w2.heap.size w2 W → Kd.V k72 72 W W.heap.size (fun _ => True) (.slice A0 l0.length c0) l0 from fun W hb => Kd.V_below V2.out hb)
  have na_ := Aside0.mk na
  have nb_ := Aside0.mk nb
  clear hJset V2 V0 q5 z5 q53 na nb nb'
  go_loopg [20] x4.length (fun kq v20 w' => ∃ (i : Nat) (s1 : List Int) (b1 : Int), v20 = .int .i64 (i : Int) ∧ Aside0 (i + kq = x4.length) ∧ Aside0 (view_File_Own.run l0 (x4.drop i) s1 b1 x3 = some r) ∧ Aside0 (w'.heap[ga]? = some (.cells #[.int .i64 b1] 3 (0, 0))) ∧ Aside0 (w'.heap[gx]? = some (.cells #[.int .i64 x1, .int .i64 x2, .int .i64 x3, .slice A3 x4.length c3] 44 (0, 0))) ∧ Aside0 (view_File_Own.J w2.heap.size g N s1 w') ∧ Aside0 (Below w2.heap.size w2 w'))
  case atStart => exact ⟨0, [], x2, rfl, ⟨by omega⟩, HH, ⟨blk_put A5.out 0 _ rfl⟩, ⟨blk_far X5.out (p := ⟨ga, 0, none⟩) nb_.out.symm _⟩, ⟨JS.out _ _ _ ⟨_, G5.out, Kd.R_nil _ _ _ _ _⟩⟩, ⟨B5.out.setCell (p := ⟨ga, 0, none⟩) GA.out _⟩⟩
  case round =>
    clear HH X3 B3 X4 B4 G4 X5 G5 A5 B5
    obtain ⟨i, s1, b1, rfl, HI, HU, HA, HX, HJ, HW⟩ := hrel
    by_cases cq : i < x4.length
    · have c1 : (i : Int) < (x4.length : Int) := by omega
      have c2 : decide ((i : Int) < (x4.length : Int)) = true := decide_eq_true c1
      have hu0 := HU.out
      rw [List.drop_eq_getElem_cons cq] at hu0
      obtain ⟨kk, hkk⟩ : ∃ kk, kk = x4[i] := ⟨_, rfl⟩
      rw [← hkk] at hu0
      simp only [view_File_Own.run] at hu0
      obtain ⟨⟨y1, y2, y3, y4⟩, hy, hu0⟩ := Option.bind_eq_some_iff.mp hu0
      obtain ⟨s2, hs2, hu0⟩ := Option.bind_eq_some_iff.mp hu0
      have AY := Aside0.mk hy
      have S2 := Aside0.mk hs2
      have U2 := Aside0.mk hu0
      obtain ⟨ad1, cc, eA1, _, hK1, hc1⟩ := Kd.C_get C3.out (0 : Int) (i : Int) (by omega) c1
      have hK1' : cc = [.int .i64 (x4.getD (i : Int).toNat 0)] := hK1
      subst hK1'
      have hc1' : w2.cell? (ad1.add i) = some (.int .i64 kk) := by
        have := hc1 0 _ rfl
        rw [Int.toNat_natCast, show i * (Kd.int IntKind.i64).sz + 0 = i by show i * 1 + 0 = i; omega, List.getD_eq_getElem?_getD, List.getElem?_eq_getElem cq] at this
        rw [this, hkk]
        rfl
      have K1 := (HW.out.cell (World.block_lt_of_cell? w2 _ hc1')).trans hc1'
      subst eA1
      clear hK1 hc1 hc1' hkk hy hs2 hu0 HU
      go_wp2_with (first | (go_at_call 37; refine Hid.out ?_))
      refine Lib.hid ?_
      refine (view_File_Node.calls (fun _ => True) A0 c0 l0 kk y1 y2 y3 y4 wr (W2.out _ HW.out) AY.out).mono ?_
      rintro e w6 ⟨v6, rfl, ho6, hb6⟩
      obtain ⟨A6, c6, rfl, hl6, hf6⟩ := ho6
      have b6 := HW.out.trans (hb6.mono HW.out.size)
      have a6 := blk_below HA.out hb6
      have x6 := blk_below HX.out hb6
      have j6 := view_File_Own.below HJ.out hb6
      have B6 := Aside0.mk b6
      have A6' := Aside0.mk a6
      have X6 := Aside0.mk x6
      have J6 := Aside0.mk j6
      have LT6 := Aside0.mk (show ∀ k, N k → k < w6.heap.size from fun k hk => Or.elim (NE.out k hk) (fun e => by rw [e]; exact blk_lt a6) (fun e => by rw [e]; exact blk_lt x6))
      clear hb6 b6 a6 x6 j6 hl6 hf6
      go_wp2_with (first
        | (go_at_call 47; (with_reducible refine (view_File_Own.upto_calls (w0 := w2) (B := w2.heap.size) (N := N) GA.out GG.out NA.out NG.out _ s1 b1 y2 s2 _ S2.out rfl A6'.out LT6.out J6.out B6.out).mono ?_); rintro e w7 ⟨rfl, hj7, hb7, ⟨m7, ha7⟩, hk7⟩; have hx7 := (hk7 gx NX.out nb_.out.symm).trans X6.out; have X7 := Aside0.mk hx7; have A7 := Aside0.mk ha7; have J7 := Aside0.mk hj7; have B7 := Aside0.mk hb7; clear hx7 ha7 hj7 hb7 hk7)
        | (go_at_call 37; refine Hid.out ?_))
      refine Lib.hid ?_
      refine (view_File_Node.calls (fun _ => True) A0 c0 l0 kk y1 y2 y3 y4 w7 (W2.out _ B7.out) AY.out).mono ?_
      rintro e w8 ⟨v8, rfl, ho8, hb8⟩
      obtain ⟨A8, c8, rfl, hl8, hf8⟩ := ho8
      have b8 := B7.out.trans (hb8.mono B7.out.size)
      have a8 := blk_below A7.out hb8
      have x8 := blk_below X7.out hb8
      have j8 := view_File_Own.below J7.out hb8
      have q8 := blk_cell a8 0
      have z8 := blk_frozen a8 0
      simp only [List.getElem?_toArray, List.getElem?_cons_zero, List.getElem?_cons_succ] at q8
      have B8 := Aside0.mk b8
      have A8' := Aside0.mk a8
      have X8 := Aside0.mk x8
      have J8 := Aside0.mk j8
      clear hb8 b8 a8 x8 j8 hl8 hf8
      go_wp2
      have ew : wrap64 ((i : Int) + 1) = ((i + 1 : Nat) : Int) := by have := HKL.out; unfold wrap64; omega
      go_roundg (x4.length - (i + 1))
      case measure => have := HI.out; omega
      case rel => exact ⟨i + 1, s2, _, by rw [ew], ⟨by omega⟩, U2, ⟨blk_put A8'.out 0 _ rfl⟩, ⟨blk_far X8.out (p := ⟨ga, 0, none⟩) nb_.out.symm _⟩, ⟨JS.out _ _ _ J8.out⟩, ⟨B8.out.setCell (p := ⟨ga, 0, none⟩) GA.out _⟩⟩
    · have c1 : ¬ (i : Int) < (x4.length : Int) := by omega
      have c2 : decide ((i : Int) < (x4.length : Int)) = false := decide_eq_false c1
      have hi0 : i = x4.length := by have := HI.out; omega
      have hu0 := HU.out
      rw [hi0, List.drop_length] at hu0
      simp only [view_File_Own.run] at hu0
      have U2 := Aside0.mk hu0
      have LT := Aside0.mk (show ∀ k, N k → k < wr.heap.size from fun k hk => Or.elim (NE.out k hk) (fun e => by rw [e]; exact blk_lt HA.out) (fun e => by rw [e]; exact blk_lt HX.out))
      have q2 := blk_cell HX.out 2
      simp only [List.getElem?_toArray, List.getElem?_cons_zero, List.getElem?_cons_succ] at q2
      clear hu0 HU
      go_wp2_with (first
        | (go_at_call 47; (with_reducible refine (view_File_Own.upto_calls (w0 := w2) (B := w2.heap.size) (N := N) GA.out GG.out NA.out NG.out _ s1 b1 x3 r _ U2.out rfl HA.out LT.out HJ.out HW.out).mono ?_); rintro e w7 ⟨rfl, ⟨v7, hg7, ho7⟩, hb7, _, _⟩; have q7 := blk_cell hg7 0; simp only [List.getElem?_toArray, List.getElem?_cons_zero] at q7; have O7 := Aside0.mk ho7; have B7 := Aside0.mk hb7; clear hg7 ho7 hb7))
      go_ret
      exact ⟨_, rfl, Kd.R_mono (Kd.R_lower O7.out B2.out.size) (fun _ _ => trivial), B2.out.trans (B7.out.mono B2.out.size)⟩

/-! ### view_File_Own_nil: function 38 -/
def view_File_Own_nil.f (a0 : Unit) (a1 : Int) : Option (List Int) := some []
set_option maxHeartbeats 8000000 in
set_option maxRecDepth 100000 in
theorem view_File_Own_nil.calls (a0 : Unit) (a1 : Int) (r : List Int) (w : World) (h : view_File_Own_nil.f a0 a1 = some r) :
    Calls Try.prog 38 #[.pointer none, .int .i64 a1] w fun e w' => ∃ v0_ : Value, e = .returned v0_ ∧ Kd.R (Kd.int .i64) 3 w' w.heap.size (fun _ => True) v0_ r ∧ Below w.heap.size w w' := by
  obtain rfl := Option.some.inj h
  clear h
  have hu := Try.underlying44
  have AX : view_File_Node_nil.f a0 a1 = some (0, 0, 0, []) := rfl
  go_enter Try.func38, Try.ntmps38
  go_wp2_with (first
    | (go_at_call 37; (refine (view_File_Node_nil.calls a0 a1 0 0 0 [] _ AX).mono ?_); rintro e w2 ⟨v3, rfl, ho2, hb2⟩; obtain ⟨A3, c3, rfl⟩ := Kd.R_slice ho2; have B2 := Aside0.mk hb2; clear hb2 ho2)
    | ((with_reducible refine gate_dst (N := 5) rfl ?_); refine box_event ?hg (N := 5) ?hd (cs := #[.int .i64 0, .int .i64 0, .int .i64 0, .slice none 0 0]) (t := 44) ?hr ?_; (case hd => rfl); (case hg => rfl); (case hr => first | (go_simp; done) | (go_simp; rfl)); intro gx egx w3 hxx hbx; have X3 := Aside0.mk hxx; have B3 := Aside0.mk hbx; have GX := Aside0.mk (Nat.le_of_eq egx.symm); have q0 := blk_cell hxx 0; have q1 := blk_cell hxx 1; have q2 := blk_cell hxx 2; have q3 := blk_cell hxx 3; have z0 := blk_frozen hxx 0; have z1 := blk_frozen hxx 1; have z2 := blk_frozen hxx 2; have z3 := blk_frozen hxx 3; simp only [List.getElem?_toArray, List.getElem?_cons_zero, List.getElem?_cons_succ] at q0 q1 q2 q3; clear hxx hbx egx)
    | ((with_reducible refine gate_dst (N := 6) rfl ?_); refine box_event ?hg (N := 6) ?hd (cs := #[.slice none 0 0]) (t := 42) ?hr ?_; (case hd => rfl); (case hg => rfl); (case hr => first | (go_simp; done) | (go_simp; rfl)); intro g egg w4 hxg hbg; have hx4 : w4.heap[gx]? = some (.cells #[.int .i64 0, .int .i64 0, .int .i64 0, .slice A3 0 c3] 44 (0, 0)) := blk_below (blk_put (blk_put (blk_put (blk_put X3.out 0 _ rfl) 1 _ rfl) 2 _ rfl) 3 _ rfl) hbg; have bs := (((B3.out.setCell (p := ⟨gx, 0, none⟩) GX.out (.int .i64 0)).setCell (p := ⟨gx, 1, none⟩) GX.out (.int .i64 0)).setCell (p := ⟨gx, 2, none⟩) GX.out (.int .i64 0)).setCell (p := ⟨gx, 3, none⟩) GX.out (.slice A3 0 c3); have X4 := Aside0.mk hx4; have B4 := Aside0.mk (bs.trans (hbg.mono bs.size)); have GG := Aside0.mk (Nat.le_trans bs.size (Nat.le_of_eq egg.symm)); have G4 := Aside0.mk hxg; have nx := Aside0.mk (show gx ≠ g from fun e => by have h1 := blk_lt (blk_put (blk_put (blk_put (blk_put X3.out 0 (.int .i64 0) rfl) 1 (.int .i64 0) rfl) 2 (.int .i64 0) rfl) 3 (.slice A3 0 c3) rfl); have h2 := Nat.le_of_eq egg.symm; omega); have q1' := blk_cell hx4 1; simp only [List.getElem?_toArray, List.getElem?_cons_zero, List.getElem?_cons_succ] at q1'; clear hxg hbg egg bs hx4 q0 q1 q2 q3 z0 z1 z2 z3)
    | ((with_reducible refine gate_dst (N := 7) rfl ?_); refine box_event ?hg (N := 7) ?hd (cs := #[.int .i64 0]) (t := 3) ?hr ?_; (case hd => rfl); (case hg => rfl); (case hr => first | (go_simp; done) | (go_simp; rfl)); intro ga ega w5 hxa hba; have hx5 := blk_below X4.out hba; have hg5 := blk_below G4.out hba; have na : ga ≠ g := fun e => by { have h1 := blk_lt G4.out; have h2 := ega; omega }; have nb : ga ≠ gx := fun e => by { have h1 := blk_lt X4.out; have h2 := ega; omega }; have nb' : gx ≠ ga := nb.symm; have X5 := Aside0.mk hx5; have G5 := Aside0.mk hg5; have A5 := Aside0.mk hxa; have B5 := Aside0.mk (B4.out.trans (hba.mono B4.out.size)); have GA := Aside0.mk (Nat.le_trans B4.out.size (Nat.le_of_eq ega.symm)); have q5 := blk_cell hxa 0; have z5 := blk_frozen hxa 0; have q53 := blk_cell hx5 3; simp only [List.getElem?_toArray, List.getElem?_cons_zero, List.getElem?_cons_succ] at q5 q53; clear hx5 hg5 hxa hba q1' ega))
  obtain ⟨N, hN⟩ : ∃ N : Nat → Prop, N = fun k => k = ga ∨ k = gx := ⟨_, rfl⟩
  have NA := Aside0.mk (show N ga by rw [hN]; exact .inl rfl)
  have NX := Aside0.mk (show N gx by rw [hN]; exact .inr rfl)
  have NG := Aside0.mk (show ¬ N g by { rw [hN]; intro h; exact Or.elim h (fun h => na h.symm) (fun h => nx.out h.symm) })
  have NE := Aside0.mk (show ∀ k, N k → k = ga ∨ k = gx by { intro k h; rw [hN] at h; exact h })
  clear hN
  have hJset : ∀ (s : List Int) (W : World) (u : Value), view_File_Own.J w2.heap.size g N s W → view_File_Own.J w2.heap.size g N s (W.setCell ⟨ga, 0, none⟩ u) := fun s W u h => view_File_Own.set NG.out ga 0 u NA.out h
  have JS := Aside0.mk hJset
  have na_ := Aside0.mk na
  have nb_ := Aside0.mk nb
  clear hJset q5 z5 q53 na nb nb'
  go_loopg [20] 0 (fun kq v20 w' => v20 = .int .i64 0 ∧ Aside0 (w'.heap[ga]? = some (.cells #[.int .i64 0] 3 (0, 0))) ∧ Aside0 (w'.heap[gx]? = some (.cells #[.int .i64 0, .int .i64 0, .int .i64 0, .slice A3 0 c3] 44 (0, 0))) ∧ Aside0 (view_File_Own.J w2.heap.size g N [] w') ∧ Aside0 (Below w2.heap.size w2 w'))
  case atStart => exact ⟨rfl, ⟨blk_put A5.out 0 _ rfl⟩, ⟨blk_far X5.out (p := ⟨ga, 0, none⟩) nb_.out.symm _⟩, ⟨JS.out _ _ _ ⟨_, G5.out, Kd.R_nil _ _ _ _ _⟩⟩, ⟨B5.out.setCell (p := ⟨ga, 0, none⟩) GA.out _⟩⟩
  case round =>
    clear X3 B3 X4 B4 G4 X5 G5 A5 B5
    obtain ⟨rfl, HA, HX, HJ, HW⟩ := hrel
    have LT := Aside0.mk (show ∀ k, N k → k < wr.heap.size from fun k hk => Or.elim (NE.out k hk) (fun e => by rw [e]; exact blk_lt HA.out) (fun e => by rw [e]; exact blk_lt HX.out))
    have q2 := blk_cell HX.out 2
    simp only [List.getElem?_toArray, List.getElem?_cons_zero, List.getElem?_cons_succ] at q2
    go_wp2_with (first
      | (go_at_call 47; (with_reducible refine (view_File_Own.upto_calls (w0 := w2) (B := w2.heap.size) (N := N) GA.out GG.out NA.out NG.out 0 [] 0 0 [] _ rfl rfl HA.out LT.out HJ.out HW.out).mono ?_); rintro e w7 ⟨rfl, ⟨v7, hg7, ho7⟩, hb7, _, _⟩; have q7 := blk_cell hg7 0; simp only [List.getElem?_toArray, List.getElem?_cons_zero] at q7; have O7 := Aside0.mk ho7; have B7 := Aside0.mk hb7; clear hg7 ho7 hb7))
    go_ret
    exact ⟨_, rfl, Kd.R_mono (Kd.R_lower O7.out B2.out.size) (fun _ _ => trivial), B2.out.trans (B7.out.mono B2.out.size)⟩

end Go.Proofs.Ytnpgadfoohjlnaa.QV
