/- Where a Lean function of this text answers, the Go function of its name comes to that answer: no other condition. Written by a program of this session out of the translation; Lean checks it. -/
import Derived.Test.YtnpgadfoohjlnaaDoorQV0
import Derived.Test.YtnpgadfoohjlnaaDoorQV9
namespace Go.Proofs.YtnpgadfoohjlnaaDoor.QV
open Go.RowKit Go.Proofs.YtnpgadfoohjlnaaDoorW.PrintWords Go.Proofs.YtnpgadfoohjlnaaDoorW.PrintLast Go.Proofs.YtnpgadfoohjlnaaDoorW.PrintMore Go.Proofs.YtnpgadfoohjlnaaDoorW.PrintX
attribute [local go_sem] max2_int min2_int max_two min_two max_three min_three max_four min_four   -- for this text's walks alone
set_option linter.unusedVariables false
set_option linter.unusedSimpArgs false

/-! ### view_File_Op: function 70 -/
mutual
def view_File_Op.l0 : Nat → List (S100) → List Int → Int → Int → Option (Int)
 | 0, _, _, _, _ => none
 | k + 1, x0, x10, x11, x12 => if x12 < x11 then (if 0 ≤ x12 then (if x12 < (x10.length : Int) then (if 0 < (x0.length : Int) then (if 0 ≤ (rd x10 x12) then (if (rd x10 x12) < (((rd_T100 x0 0).f1).length : Int) then (if ((rd_T103 ((rd_T100 x0 0).f1) (rd x10 x12)).f0) = 78 then (view_File_Op.j1 k x0 ((rd_T103 ((rd_T100 x0 0).f1) (rd x10 x12)).f0) x10 x11 x12 ((rd_T103 ((rd_T100 x0 0).f1) (rd x10 x12)).f0) (((rd_T103 ((rd_T100 x0 0).f1) (rd x10 x12)).f0) == 78)) else (if ((rd_T103 ((rd_T100 x0 0).f1) (rd x10 x12)).f0) = 83 then (view_File_Op.j1 k x0 ((rd_T103 ((rd_T100 x0 0).f1) (rd x10 x12)).f0) x10 x11 x12 ((rd_T103 ((rd_T100 x0 0).f1) (rd x10 x12)).f0) (((rd_T103 ((rd_T100 x0 0).f1) (rd x10 x12)).f0) == 83)) else (if ((rd_T103 ((rd_T100 x0 0).f1) (rd x10 x12)).f0) = 79 then (view_File_Op.j1 k x0 ((rd_T103 ((rd_T100 x0 0).f1) (rd x10 x12)).f0) x10 x11 x12 ((rd_T103 ((rd_T100 x0 0).f1) (rd x10 x12)).f0) (((rd_T103 ((rd_T100 x0 0).f1) (rd x10 x12)).f0) == 79)) else (if ((rd_T103 ((rd_T100 x0 0).f1) (rd x10 x12)).f0) = 84 then (view_File_Op.j1 k x0 ((rd_T103 ((rd_T100 x0 0).f1) (rd x10 x12)).f0) x10 x11 x12 ((rd_T103 ((rd_T100 x0 0).f1) (rd x10 x12)).f0) (((rd_T103 ((rd_T100 x0 0).f1) (rd x10 x12)).f0) == 84)) else (if ((rd_T103 ((rd_T100 x0 0).f1) (rd x10 x12)).f0) = 80 then (view_File_Op.j1 k x0 ((rd_T103 ((rd_T100 x0 0).f1) (rd x10 x12)).f0) x10 x11 x12 ((rd_T103 ((rd_T100 x0 0).f1) (rd x10 x12)).f0) (((rd_T103 ((rd_T100 x0 0).f1) (rd x10 x12)).f0) == 80)) else (view_File_Op.j1 k x0 ((rd_T103 ((rd_T100 x0 0).f1) (rd x10 x12)).f0) x10 x11 x12 ((rd_T103 ((rd_T100 x0 0).f1) (rd x10 x12)).f0) (((rd_T103 ((rd_T100 x0 0).f1) (rd x10 x12)).f0) == 85))))))) else (none)) else (none)) else (none)) else (none)) else (none)) else (some 0)
def view_File_Op.j1 : Nat → List (S100) → Int → List Int → Int → Int → Int → Bool → Option (Int)
 | 0, _, _, _, _, _, _, _ => none
 | k + 1, x0, x7, x10, x11, x12, x24, x26 => if x26 = true then (view_File_Op.l0 k x0 x10 x11 (wrap64 (x12 + 1))) else (if x24 = 81 then (view_File_Op.l0 k x0 x10 x11 (wrap64 (x12 + 1))) else (if x24 = 82 then (view_File_Op.l0 k x0 x10 x11 (wrap64 (x12 + 1))) else (if x24 = 87 then (view_File_Op.l0 k x0 x10 x11 (wrap64 (x12 + 1))) else (if x24 = 86 then (view_File_Op.l0 k x0 x10 x11 (wrap64 (x12 + 1))) else (some x7)))))
end
def view_File_Op.f (k : Nat) (l0 : List (S100)) (a1 : Int) : Option (Int) := if 0 < (l0.length : Int) then ((view_File_Own.f l0 a1).bind fun t225 => (view_File_Op.l0 k l0 t225 (t225.length : Int) 0)) else (none)
theorem view_File_Op.mono_l : ∀ k, (∀ y0 y1 y2 y3, LeO (view_File_Op.l0 k y0 y1 y2 y3) (view_File_Op.l0 (k + 1) y0 y1 y2 y3)) ∧ (∀ y0 y1 y2 y3 y4 y5 y6, LeO (view_File_Op.j1 k y0 y1 y2 y3 y4 y5 y6) (view_File_Op.j1 (k + 1) y0 y1 y2 y3 y4 y5 y6))
 | 0 => ⟨fun _ _ _ _ r h => by simp [view_File_Op.l0] at h, fun _ _ _ _ _ _ _ r h => by simp [view_File_Op.j1] at h⟩
 | k + 1 => by
  obtain ⟨ih0, ih1⟩ := view_File_Op.mono_l k
  refine ⟨?_, ?_⟩
  ·intro y0 y1 y2 y3
   unfold view_File_Op.l0
   repeat' first
   | (with_reducible exact ih0 _ _ _ _)
   | (with_reducible exact ih1 _ _ _ _ _ _ _)
   | (with_reducible exact LeO.refl _)
   | (with_reducible exact LeO.none _)
   | (with_reducible refine LeO.ite ?_ ?_)
   | (with_reducible refine LeO.bind ?_ (fun _ => ?_))
   | exact ih0 _ _ _ _
   | exact ih1 _ _ _ _ _ _ _
   | exact LeO.none _
   | refine LeO.ite ?_ ?_
   | refine LeO.bind ?_ (fun _ => ?_)
  ·intro y0 y1 y2 y3 y4 y5 y6
   unfold view_File_Op.j1
   repeat' first
   | (with_reducible exact ih0 _ _ _ _)
   | (with_reducible exact ih1 _ _ _ _ _ _ _)
   | (with_reducible exact LeO.refl _)
   | (with_reducible exact LeO.none _)
   | (with_reducible refine LeO.ite ?_ ?_)
   | (with_reducible refine LeO.bind ?_ (fun _ => ?_))
   | exact ih0 _ _ _ _
   | exact ih1 _ _ _ _ _ _ _
   | exact LeO.none _
   | refine LeO.ite ?_ ?_
   | refine LeO.bind ?_ (fun _ => ?_)
theorem view_File_Op.mono : ∀ a0 a1 k, LeO (view_File_Op.f k a0 a1) (view_File_Op.f (k + 1) a0 a1) := by
 intro a0 a1 k
 obtain ⟨ih0, ih1⟩ := view_File_Op.mono_l k
 unfold view_File_Op.f
 repeat' first
   | (with_reducible exact ih0 _ _ _ _)
   | (with_reducible exact ih1 _ _ _ _ _ _ _)
   | (with_reducible exact LeO.refl _)
   | (with_reducible exact LeO.none _)
   | (with_reducible refine LeO.ite ?_ ?_)
   | (with_reducible refine LeO.bind ?_ (fun _ => ?_))
   | exact ih0 _ _ _ _
   | exact ih1 _ _ _ _ _ _ _
   | exact LeO.none _
   | refine LeO.ite ?_ ?_
   | refine LeO.bind ?_ (fun _ => ?_)
set_option maxHeartbeats 8000000 in
set_option maxRecDepth 100000 in
theorem view_File_Op.calls (k : Nat) (A0 : Option Addr) (c0 : Nat) (l0 : List (S100)) (a1 : Int) (r : Int) (w : World) (hr0 : Kd.C k100 w A0 l0.length l0) (hc0 : l0.length ≤ c0) (h : view_File_Op.f k l0 a1 = some r) :
  Calls Tryd.prog 70 #[.pointer A0, .int .i64 a1] w fun e w' => e = .returned (.int .i64 r) ∧ Below w.heap.size w w' := by
 have HR0 := Aside0.mk hr0
 have HC0 := Aside0.mk hc0
 clear hr0 hc0
 have HB := Aside0.mk (Below.refl w.heap.size w)
 have H : (if 0 < (l0.length : Int) then ((view_File_Own.f l0 a1).bind fun t225 => (view_File_Op.l0 k l0 t225 (t225.length : Int) 0)) else (none)) = some r := h
 clear h
 by_cases c3 : 0 < (l0.length : Int)
 ·rw [if_pos c3] at H
  have c3b0 : decide (0 < (l0.length : Int)) = true := decide_eq_true c3
  have c3b1 : decide (0 < l0.length) = true := decide_eq_true (by omega)
  clear c3
  replace H := Option.bind_eq_some_iff.mp H
  obtain ⟨t225, A40, H⟩ := H
  replace H : (view_File_Op.l0 k l0 t225 (t225.length : Int) 0) = some r := H
  have A4 := Aside0.mk A40
  clear A40
  have H' := Aside0.mk H
  clear H
  have p224 : 0 ≤ (0 : Int) := (by omega)
  have q224 : 0 < (l0.length : Int) := of_dec
  obtain ⟨ad224, A224_0, c224_0, A224_1, c224_1, A224_2, c224_2, e224, hx224_0, hx224_1, hx224_2, hl224_0, hi224_0, hl224_1, hi224_1, hl224_2, hi224_2⟩ := at_T100 HR0.out 0 p224 q224
  cases e224
  have qi224 : (0 < l0.length) = True := eq_true (by omega)
  (try rw [show ((0 : Int)).toNat = 0 from rfl] at hx224_0)
  (try rw [show 0 * 3 = 0 from rfl] at hx224_0)
  (try rw [Addr.add_zero'] at hx224_0)
  (try rw [show ((0 : Int)).toNat = 0 from rfl] at hx224_1)
  (try rw [show 0 * 3 = 0 from rfl] at hx224_1)
  (try rw [Addr.add_zero'] at hx224_1)
  (try rw [show ((0 : Int)).toNat = 0 from rfl] at hx224_2)
  (try rw [show 0 * 3 = 0 from rfl] at hx224_2)
  (try rw [Addr.add_zero'] at hx224_2)
  have HR224_0 := Aside0.mk hi224_0
  have HC224_0 := Aside0.mk hl224_0
  clear hi224_0 hl224_0
  have HR224_1 := Aside0.mk hi224_1
  have HC224_1 := Aside0.mk hl224_1
  clear hi224_1 hl224_1
  have HR224_2 := Aside0.mk hi224_2
  have HC224_2 := Aside0.mk hl224_2
  clear hi224_2 hl224_2
  replace p224 := eq_true p224
  replace q224 := eq_true q224
  go_enter Tryd.func70, Tryd.ntmps70
  go_wp2_with (first | ((with_reducible refine gate_callee (f := 44) rfl ?_); refine goesL_ (some 10) rfl rfl Tryd.func44 (by kernel_rfl) rfl #[.pointer (some ad224), .int .i64 a1] rfl (by (try simp only [List.map_toArray, List.map_cons, List.map_nil]); first | done | rfl | (simp only [List.length_drop, List.length_take]; rfl)) ?_; (with_reducible refine (view_File_Own.calls _ c0 l0 a1 t225 _ ?side1 ?side2 A4.out).mono ?_); (case side1 => repeat (first | exact HR0.out | (with_reducible refine Kd.C_alloc ?_ _) | (with_reducible refine Kd.C_drewN ?_ _) | (with_reducible refine Kd.C_drew ?_))); (case side2 => exact HC0.out); rintro e w5 ⟨v226, rfl, ho0, hb⟩; refine ⟨_, rfl, ?_⟩; have n0_ := Aside0.mk (Kd.R_lower ho0 (below_size (go_b HB.out))); have n1_ := Aside0.mk (below_step (go_b HB.out) hb); clear HB; have HO227 := n0_; have HB := n1_; clear n0_ n1_; (try clear hb); (try clear hb2); (try clear hk); (try clear hi); (try clear ho0); obtain ⟨Ao6, co6, eo6⟩ := Kd.R_slice HO227.out; subst eo6))
  go_loopg [12] k (fun kq v12 w' => ∃ (x12_1 : Int), v12 = .int .i64 x12_1 ∧ Aside0 (view_File_Op.l0 kq l0 t225 (t225.length : Int) x12_1 = some r) ∧ Aside0 (kq ≤ k) ∧ Aside0 (Kd.R (Kd.int .i64) 3 w' w.heap.size (fun _ => True) (.slice Ao6 t225.length co6) t225) ∧ Aside0 (Below w.heap.size w w'))
  case atStart => exact ⟨(0), (by first | rfl | (simp; done) | (simp [*]; done)), H', ⟨Nat.le_refl _⟩, ⟨by (with_reducible repeat (first | apply Kd.R_alloc | apply Kd.R_drewN | apply Kd.R_drew)); exact HO227.out⟩, ⟨by repeat (first | (with_reducible first | exact HB.out | apply below_alloc | apply pw_below_drewN | apply below_drew1) | exact HB.out)⟩⟩
  case round =>
   clear H'
   try clear c2
   try clear p2
   try clear q2
   try clear hx2
   try clear qi2
   try clear c3
   try clear c3b0
   try clear c3b1
   try clear c4
   try clear hx224_0
   try clear hx224_1
   try clear hx224_2
   try clear p224
   try clear q224
   obtain ⟨x12_1, rfl, HA, HK1, HO_10, HB⟩ := hrel
   cases gk with
   | zero => exact absurd HA.out (by simp [view_File_Op.l0])
   | succ k1 =>
    have H := HA.out
    clear HA
    simp only [view_File_Op.l0] at H
    by_cases c7 : x12_1 < (t225.length : Int)
    ·rw [if_pos c7] at H
     have c7b0 : decide (x12_1 < (t225.length : Int)) = true := decide_eq_true c7
     clear c7
     by_cases c8 : 0 ≤ x12_1
     ·rw [if_pos c8] at H
      have c8b0 : decide (0 ≤ x12_1) = true := decide_eq_true c8
      clear c8
      by_cases c9 : x12_1 < (t225.length : Int)
      ·rw [if_pos c9] at H
       have c9b0 : decide (x12_1 < (t225.length : Int)) = true := decide_eq_true c9
       clear c9
       by_cases c10 : 0 < (l0.length : Int)
       ·rw [if_pos c10] at H
        have c10b0 : decide (0 < (l0.length : Int)) = true := decide_eq_true c10
        have c10b1 : decide (0 < l0.length) = true := decide_eq_true (by omega)
        clear c10
        by_cases c11 : 0 ≤ (rd t225 x12_1)
        ·rw [if_pos c11] at H
         have c11b0 : decide (0 ≤ (rd t225 x12_1)) = true := decide_eq_true c11
         clear c11
         by_cases c12 : (rd t225 x12_1) < (((rd_T100 l0 0).f1).length : Int)
         ·rw [if_pos c12] at H
          have c12b0 : decide ((rd t225 x12_1) < (((rd_T100 l0 0).f1).length : Int)) = true := decide_eq_true c12
          clear c12
          have HC13 := Aside0.mk H
          clear H
          have p228 : 0 ≤ (x12_1 : Int) := of_dec
          have q228 : x12_1 < (t225.length : Int) := of_dec
          obtain ⟨ad228, e228, hx228_0⟩ := Kd.at_int (Kd.R_reads' HO_10.out).2.2 x12_1 p228 q228
          cases e228
          replace p228 := eq_true p228
          replace q228 := eq_true q228
          have p229 : 0 ≤ (0 : Int) := (by omega)
          have q229 : 0 < (l0.length : Int) := of_dec
          obtain ⟨ad229, A229_0, c229_0, A229_1, c229_1, A229_2, c229_2, e229, hx229_0, hx229_1, hx229_2, hl229_0, hi229_0, hl229_1, hi229_1, hl229_2, hi229_2⟩ := at_T100 HR0.out 0 p229 q229
          obtain rfl : ad224 = ad229 := (by injection e229)
          have qi229 : (0 < l0.length) = True := eq_true (by omega)
          (try rw [show ((0 : Int)).toNat = 0 from rfl] at hx229_0)
          (try rw [show 0 * 3 = 0 from rfl] at hx229_0)
          (try rw [Addr.add_zero'] at hx229_0)
          (try rw [show ((0 : Int)).toNat = 0 from rfl] at hx229_1)
          (try rw [show 0 * 3 = 0 from rfl] at hx229_1)
          (try rw [Addr.add_zero'] at hx229_1)
          (try rw [show ((0 : Int)).toNat = 0 from rfl] at hx229_2)
          (try rw [show 0 * 3 = 0 from rfl] at hx229_2)
          (try rw [Addr.add_zero'] at hx229_2)
          replace hx229_0 := cell_b HB.out hx229_0
          replace hx229_1 := cell_b HB.out hx229_1
          replace hx229_2 := cell_b HB.out hx229_2
          have HR229_0 := Aside0.mk hi229_0
          have HC229_0 := Aside0.mk hl229_0
          clear hi229_0 hl229_0
          have HR229_1 := Aside0.mk hi229_1
          have HC229_1 := Aside0.mk hl229_1
          clear hi229_1 hl229_1
          have HR229_2 := Aside0.mk hi229_2
          have HC229_2 := Aside0.mk hl229_2
          clear hi229_2 hl229_2
          replace p229 := eq_true p229
          replace q229 := eq_true q229
          have p230 : 0 ≤ ((rd t225 x12_1) : Int) := of_dec
          have q230 : (rd t225 x12_1) < (((rd_T100 l0 0).f1).length : Int) := of_dec
          obtain ⟨ad230, e230, hx230_0, hx230_1, hx230_2, hx230_3, hx230_4⟩ := at_T103 HR229_1.out (rd t225 x12_1) p230 q230
          cases e230
          replace hx230_0 := cell_b HB.out hx230_0
          replace hx230_1 := cell_b HB.out hx230_1
          replace hx230_2 := cell_b HB.out hx230_2
          replace hx230_3 := cell_b HB.out hx230_3
          replace hx230_4 := cell_b HB.out hx230_4
          replace p230 := eq_true p230
          replace q230 := eq_true q230
          go_upto_if 26 with (fail)
          go_cut [26] (fun v26 wc => ∃ (kq : Nat) (x26_12 : Bool), v26 = .bool x26_12 ∧ Aside0 (view_File_Op.j1 kq l0 ((rd_T103 ((rd_T100 l0 0).f1) (rd t225 x12_1)).f0) t225 (t225.length : Int) x12_1 ((rd_T103 ((rd_T100 l0 0).f1) (rd t225 x12_1)).f0) x26_12 = some r) ∧ Aside0 (kq ≤ k1) ∧ Aside0 (Kd.R (Kd.int .i64) 3 wc w.heap.size (fun _ => True) (.slice (some ad228) t225.length co6) t225) ∧ Aside0 (Below w.heap.size w wc))
          case first =>
           have H := HC13.out
           clear HC13
           by_cases c14 : ((rd_T103 ((rd_T100 l0 0).f1) (rd t225 x12_1)).f0) = 78
           ·rw [if_pos c14] at H
            have c14b0 : (((rd_T103 ((rd_T100 l0 0).f1) (rd t225 x12_1)).f0) == 78) = true := beq_iff_eq.mpr c14
            have c14b1 : (((rd_T103 ((rd_T100 l0 0).f1) (rd t225 x12_1)).f0) != 78) = false := bne_eq_false_iff_eq.mpr c14
            clear c14
            (first | rw [c14b0] | (simp only [i64_w, i32_w]; rw [c14b0]) | skip)
            have H' := Aside0.mk H
            clear H
            go_wp2
            go_meet
            case rel => exact ⟨_, ((((rd_T103 ((rd_T100 l0 0).f1) (rd t225 x12_1)).f0) == 78)), (by first | rfl | (simp; done) | (simp [*]; done)), H', ⟨by have := HK1.out; first | omega | exact Nat.le_refl _⟩, ⟨by (with_reducible repeat (first | apply Kd.R_alloc | apply Kd.R_drewN | apply Kd.R_drew)); exact HO_10.out⟩, ⟨by repeat (first | (with_reducible first | exact HB.out | apply below_alloc | apply pw_below_drewN | apply below_drew1) | exact HB.out)⟩⟩
           ·rw [if_neg c14] at H
            have c14b0 : (((rd_T103 ((rd_T100 l0 0).f1) (rd t225 x12_1)).f0) == 78) = false := beq_eq_false_iff_ne.mpr c14
            have c14b1 : (((rd_T103 ((rd_T100 l0 0).f1) (rd t225 x12_1)).f0) != 78) = true := bne_iff_ne.mpr c14
            (first | rw [c14b0] | (simp only [i64_w, i32_w]; rw [c14b0]) | skip)
            by_cases c15 : ((rd_T103 ((rd_T100 l0 0).f1) (rd t225 x12_1)).f0) = 83
            ·rw [if_pos c15] at H
             have c15b0 : (((rd_T103 ((rd_T100 l0 0).f1) (rd t225 x12_1)).f0) == 83) = true := beq_iff_eq.mpr c15
             have c15b1 : (((rd_T103 ((rd_T100 l0 0).f1) (rd t225 x12_1)).f0) != 83) = false := bne_eq_false_iff_eq.mpr c15
             clear c15
             have H' := Aside0.mk H
             clear H
             go_wp2
             go_meet
             case rel => exact ⟨_, ((((rd_T103 ((rd_T100 l0 0).f1) (rd t225 x12_1)).f0) == 83)), (by first | rfl | (simp; done) | (simp [*]; done)), H', ⟨by have := HK1.out; first | omega | exact Nat.le_refl _⟩, ⟨by (with_reducible repeat (first | apply Kd.R_alloc | apply Kd.R_drewN | apply Kd.R_drew)); exact HO_10.out⟩, ⟨by repeat (first | (with_reducible first | exact HB.out | apply below_alloc | apply pw_below_drewN | apply below_drew1) | exact HB.out)⟩⟩
            ·rw [if_neg c15] at H
             have c15b0 : (((rd_T103 ((rd_T100 l0 0).f1) (rd t225 x12_1)).f0) == 83) = false := beq_eq_false_iff_ne.mpr c15
             have c15b1 : (((rd_T103 ((rd_T100 l0 0).f1) (rd t225 x12_1)).f0) != 83) = true := bne_iff_ne.mpr c15
             by_cases c16 : ((rd_T103 ((rd_T100 l0 0).f1) (rd t225 x12_1)).f0) = 79
             ·rw [if_pos c16] at H
              have c16b0 : (((rd_T103 ((rd_T100 l0 0).f1) (rd t225 x12_1)).f0) == 79) = true := beq_iff_eq.mpr c16
              have c16b1 : (((rd_T103 ((rd_T100 l0 0).f1) (rd t225 x12_1)).f0) != 79) = false := bne_eq_false_iff_eq.mpr c16
              clear c16
              have H' := Aside0.mk H
              clear H
              go_wp2
              go_meet
              case rel => exact ⟨_, ((((rd_T103 ((rd_T100 l0 0).f1) (rd t225 x12_1)).f0) == 79)), (by first | rfl | (simp; done) | (simp [*]; done)), H', ⟨by have := HK1.out; first | omega | exact Nat.le_refl _⟩, ⟨by (with_reducible repeat (first | apply Kd.R_alloc | apply Kd.R_drewN | apply Kd.R_drew)); exact HO_10.out⟩, ⟨by repeat (first | (with_reducible first | exact HB.out | apply below_alloc | apply pw_below_drewN | apply below_drew1) | exact HB.out)⟩⟩
             ·rw [if_neg c16] at H
              have c16b0 : (((rd_T103 ((rd_T100 l0 0).f1) (rd t225 x12_1)).f0) == 79) = false := beq_eq_false_iff_ne.mpr c16
              have c16b1 : (((rd_T103 ((rd_T100 l0 0).f1) (rd t225 x12_1)).f0) != 79) = true := bne_iff_ne.mpr c16
              by_cases c17 : ((rd_T103 ((rd_T100 l0 0).f1) (rd t225 x12_1)).f0) = 84
              ·rw [if_pos c17] at H
               have c17b0 : (((rd_T103 ((rd_T100 l0 0).f1) (rd t225 x12_1)).f0) == 84) = true := beq_iff_eq.mpr c17
               have c17b1 : (((rd_T103 ((rd_T100 l0 0).f1) (rd t225 x12_1)).f0) != 84) = false := bne_eq_false_iff_eq.mpr c17
               clear c17
               have H' := Aside0.mk H
               clear H
               go_wp2
               go_meet
               case rel => exact ⟨_, ((((rd_T103 ((rd_T100 l0 0).f1) (rd t225 x12_1)).f0) == 84)), (by first | rfl | (simp; done) | (simp [*]; done)), H', ⟨by have := HK1.out; first | omega | exact Nat.le_refl _⟩, ⟨by (with_reducible repeat (first | apply Kd.R_alloc | apply Kd.R_drewN | apply Kd.R_drew)); exact HO_10.out⟩, ⟨by repeat (first | (with_reducible first | exact HB.out | apply below_alloc | apply pw_below_drewN | apply below_drew1) | exact HB.out)⟩⟩
              ·rw [if_neg c17] at H
               have c17b0 : (((rd_T103 ((rd_T100 l0 0).f1) (rd t225 x12_1)).f0) == 84) = false := beq_eq_false_iff_ne.mpr c17
               have c17b1 : (((rd_T103 ((rd_T100 l0 0).f1) (rd t225 x12_1)).f0) != 84) = true := bne_iff_ne.mpr c17
               by_cases c18 : ((rd_T103 ((rd_T100 l0 0).f1) (rd t225 x12_1)).f0) = 80
               ·rw [if_pos c18] at H
                have c18b0 : (((rd_T103 ((rd_T100 l0 0).f1) (rd t225 x12_1)).f0) == 80) = true := beq_iff_eq.mpr c18
                have c18b1 : (((rd_T103 ((rd_T100 l0 0).f1) (rd t225 x12_1)).f0) != 80) = false := bne_eq_false_iff_eq.mpr c18
                clear c18
                have H' := Aside0.mk H
                clear H
                go_wp2
                go_meet
                case rel => exact ⟨_, ((((rd_T103 ((rd_T100 l0 0).f1) (rd t225 x12_1)).f0) == 80)), (by first | rfl | (simp; done) | (simp [*]; done)), H', ⟨by have := HK1.out; first | omega | exact Nat.le_refl _⟩, ⟨by (with_reducible repeat (first | apply Kd.R_alloc | apply Kd.R_drewN | apply Kd.R_drew)); exact HO_10.out⟩, ⟨by repeat (first | (with_reducible first | exact HB.out | apply below_alloc | apply pw_below_drewN | apply below_drew1) | exact HB.out)⟩⟩
               ·rw [if_neg c18] at H
                have c18b0 : (((rd_T103 ((rd_T100 l0 0).f1) (rd t225 x12_1)).f0) == 80) = false := beq_eq_false_iff_ne.mpr c18
                have c18b1 : (((rd_T103 ((rd_T100 l0 0).f1) (rd t225 x12_1)).f0) != 80) = true := bne_iff_ne.mpr c18
                have H' := Aside0.mk H
                clear H
                go_wp2
                go_meet
                case rel => exact ⟨_, ((((rd_T103 ((rd_T100 l0 0).f1) (rd t225 x12_1)).f0) == 85)), (by first | rfl | (simp; done) | (simp [*]; done)), H', ⟨by have := HK1.out; first | omega | exact Nat.le_refl _⟩, ⟨by (with_reducible repeat (first | apply Kd.R_alloc | apply Kd.R_drewN | apply Kd.R_drew)); exact HO_10.out⟩, ⟨by repeat (first | (with_reducible first | exact HB.out | apply below_alloc | apply pw_below_drewN | apply below_drew1) | exact HB.out)⟩⟩
          case rest =>
           clear HC13
           try clear c1
           try clear c2
           try clear p2
           try clear q2
           try clear hx2
           try clear qi2
           try clear c3
           try clear c3b0
           try clear c3b1
           try clear c4
           try clear c7
           try clear c7b0
           try clear c8
           try clear c8b0
           try clear c9
           try clear c9b0
           try clear c10
           try clear c10b0
           try clear c10b1
           try clear c11
           try clear c11b0
           try clear c12
           try clear c12b0
           try clear c14
           try clear c14b0
           try clear c14b1
           try clear c15
           try clear c15b0
           try clear c15b1
           try clear c16
           try clear c16b0
           try clear c16b1
           try clear c17
           try clear c17b0
           try clear c17b1
           try clear c18
           try clear c18b0
           try clear c18b1
           try clear hx224_0
           try clear hx224_1
           try clear hx224_2
           try clear hx228_0
           try clear hx229_0
           try clear hx229_1
           try clear hx229_2
           try clear hx230_0
           try clear hx230_1
           try clear hx230_2
           try clear hx230_3
           try clear hx230_4
           try clear p2
           try clear p224
           try clear p228
           try clear p229
           try clear p230
           try clear q2
           try clear q224
           try clear q228
           try clear q229
           try clear q230
           obtain ⟨kq, x26_12, rfl, HA, HJ12, HO_10, HB⟩ := hcut
           cases kq with
           | zero => exact absurd HA.out (by simp [view_File_Op.j1])
           | succ kj12 =>
            have H := HA.out
            clear HA
            simp only [view_File_Op.j1] at H
            by_cases c19 : x26_12 = true
            ·subst c19
             have H1 : (view_File_Op.l0 kj12 l0 t225 (t225.length : Int) (wrap64 (x12_1 + 1))) = some r := by rw [if_pos rfl] at H; exact H
             clear H
             have H := H1
             clear H1
             have H' := Aside0.mk H
             clear H
             go_wp2
             go_roundg kj12
             case measure => have := HK1.out; have := HJ12.out; omega
             case rel => exact ⟨(wrap64 (x12_1 + 1)), (by first | rfl | (simp; done) | (simp [*]; done)), H', ⟨by have := HK1.out; have := HJ12.out; omega⟩, ⟨by (with_reducible repeat (first | apply Kd.R_alloc | apply Kd.R_drewN | apply Kd.R_drew)); exact HO_10.out⟩, ⟨by repeat (first | (with_reducible first | exact HB.out | apply below_alloc | apply pw_below_drewN | apply below_drew1) | exact HB.out)⟩⟩
            ·replace c19 := Bool.eq_false_iff.mpr c19
             subst c19
             have H1 : (if ((rd_T103 ((rd_T100 l0 0).f1) (rd t225 x12_1)).f0) = 81 then (view_File_Op.l0 kj12 l0 t225 (t225.length : Int) (wrap64 (x12_1 + 1))) else (if ((rd_T103 ((rd_T100 l0 0).f1) (rd t225 x12_1)).f0) = 82 then (view_File_Op.l0 kj12 l0 t225 (t225.length : Int) (wrap64 (x12_1 + 1))) else (if ((rd_T103 ((rd_T100 l0 0).f1) (rd t225 x12_1)).f0) = 87 then (view_File_Op.l0 kj12 l0 t225 (t225.length : Int) (wrap64 (x12_1 + 1))) else (if ((rd_T103 ((rd_T100 l0 0).f1) (rd t225 x12_1)).f0) = 86 then (view_File_Op.l0 kj12 l0 t225 (t225.length : Int) (wrap64 (x12_1 + 1))) else (some ((rd_T103 ((rd_T100 l0 0).f1) (rd t225 x12_1)).f0)))))) = some r := by rw [if_neg (show ¬ (false = true) by decide)] at H; exact H
             clear H
             have H := H1
             clear H1
             by_cases c20 : ((rd_T103 ((rd_T100 l0 0).f1) (rd t225 x12_1)).f0) = 81
             ·rw [if_pos c20] at H
              have c20b0 : (((rd_T103 ((rd_T100 l0 0).f1) (rd t225 x12_1)).f0) == 81) = true := beq_iff_eq.mpr c20
              have c20b1 : (((rd_T103 ((rd_T100 l0 0).f1) (rd t225 x12_1)).f0) != 81) = false := bne_eq_false_iff_eq.mpr c20
              clear c20
              have H' := Aside0.mk H
              clear H
              go_wp2
              go_roundg kj12
              case measure => have := HK1.out; have := HJ12.out; omega
              case rel => exact ⟨(wrap64 (x12_1 + 1)), (by first | rfl | (simp; done) | (simp [*]; done)), H', ⟨by have := HK1.out; have := HJ12.out; omega⟩, ⟨by (with_reducible repeat (first | apply Kd.R_alloc | apply Kd.R_drewN | apply Kd.R_drew)); exact HO_10.out⟩, ⟨by repeat (first | (with_reducible first | exact HB.out | apply below_alloc | apply pw_below_drewN | apply below_drew1) | exact HB.out)⟩⟩
             ·rw [if_neg c20] at H
              have c20b0 : (((rd_T103 ((rd_T100 l0 0).f1) (rd t225 x12_1)).f0) == 81) = false := beq_eq_false_iff_ne.mpr c20
              have c20b1 : (((rd_T103 ((rd_T100 l0 0).f1) (rd t225 x12_1)).f0) != 81) = true := bne_iff_ne.mpr c20
              by_cases c21 : ((rd_T103 ((rd_T100 l0 0).f1) (rd t225 x12_1)).f0) = 82
              ·rw [if_pos c21] at H
               have c21b0 : (((rd_T103 ((rd_T100 l0 0).f1) (rd t225 x12_1)).f0) == 82) = true := beq_iff_eq.mpr c21
               have c21b1 : (((rd_T103 ((rd_T100 l0 0).f1) (rd t225 x12_1)).f0) != 82) = false := bne_eq_false_iff_eq.mpr c21
               clear c21
               have H' := Aside0.mk H
               clear H
               go_wp2
               go_roundg kj12
               case measure => have := HK1.out; have := HJ12.out; omega
               case rel => exact ⟨(wrap64 (x12_1 + 1)), (by first | rfl | (simp; done) | (simp [*]; done)), H', ⟨by have := HK1.out; have := HJ12.out; omega⟩, ⟨by (with_reducible repeat (first | apply Kd.R_alloc | apply Kd.R_drewN | apply Kd.R_drew)); exact HO_10.out⟩, ⟨by repeat (first | (with_reducible first | exact HB.out | apply below_alloc | apply pw_below_drewN | apply below_drew1) | exact HB.out)⟩⟩
              ·rw [if_neg c21] at H
               have c21b0 : (((rd_T103 ((rd_T100 l0 0).f1) (rd t225 x12_1)).f0) == 82) = false := beq_eq_false_iff_ne.mpr c21
               have c21b1 : (((rd_T103 ((rd_T100 l0 0).f1) (rd t225 x12_1)).f0) != 82) = true := bne_iff_ne.mpr c21
               by_cases c22 : ((rd_T103 ((rd_T100 l0 0).f1) (rd t225 x12_1)).f0) = 87
               ·rw [if_pos c22] at H
                have c22b0 : (((rd_T103 ((rd_T100 l0 0).f1) (rd t225 x12_1)).f0) == 87) = true := beq_iff_eq.mpr c22
                have c22b1 : (((rd_T103 ((rd_T100 l0 0).f1) (rd t225 x12_1)).f0) != 87) = false := bne_eq_false_iff_eq.mpr c22
                clear c22
                have H' := Aside0.mk H
                clear H
                go_wp2
                go_roundg kj12
                case measure => have := HK1.out; have := HJ12.out; omega
                case rel => exact ⟨(wrap64 (x12_1 + 1)), (by first | rfl | (simp; done) | (simp [*]; done)), H', ⟨by have := HK1.out; have := HJ12.out; omega⟩, ⟨by (with_reducible repeat (first | apply Kd.R_alloc | apply Kd.R_drewN | apply Kd.R_drew)); exact HO_10.out⟩, ⟨by repeat (first | (with_reducible first | exact HB.out | apply below_alloc | apply pw_below_drewN | apply below_drew1) | exact HB.out)⟩⟩
               ·rw [if_neg c22] at H
                have c22b0 : (((rd_T103 ((rd_T100 l0 0).f1) (rd t225 x12_1)).f0) == 87) = false := beq_eq_false_iff_ne.mpr c22
                have c22b1 : (((rd_T103 ((rd_T100 l0 0).f1) (rd t225 x12_1)).f0) != 87) = true := bne_iff_ne.mpr c22
                by_cases c23 : ((rd_T103 ((rd_T100 l0 0).f1) (rd t225 x12_1)).f0) = 86
                ·rw [if_pos c23] at H
                 have c23b0 : (((rd_T103 ((rd_T100 l0 0).f1) (rd t225 x12_1)).f0) == 86) = true := beq_iff_eq.mpr c23
                 have c23b1 : (((rd_T103 ((rd_T100 l0 0).f1) (rd t225 x12_1)).f0) != 86) = false := bne_eq_false_iff_eq.mpr c23
                 clear c23
                 have H' := Aside0.mk H
                 clear H
                 go_wp2
                 go_roundg kj12
                 case measure => have := HK1.out; have := HJ12.out; omega
                 case rel => exact ⟨(wrap64 (x12_1 + 1)), (by first | rfl | (simp; done) | (simp [*]; done)), H', ⟨by have := HK1.out; have := HJ12.out; omega⟩, ⟨by (with_reducible repeat (first | apply Kd.R_alloc | apply Kd.R_drewN | apply Kd.R_drew)); exact HO_10.out⟩, ⟨by repeat (first | (with_reducible first | exact HB.out | apply below_alloc | apply pw_below_drewN | apply below_drew1) | exact HB.out)⟩⟩
                ·rw [if_neg c23] at H
                 have c23b0 : (((rd_T103 ((rd_T100 l0 0).f1) (rd t225 x12_1)).f0) == 86) = false := beq_eq_false_iff_ne.mpr c23
                 have c23b1 : (((rd_T103 ((rd_T100 l0 0).f1) (rd t225 x12_1)).f0) != 86) = true := bne_iff_ne.mpr c23
                 obtain rfl := Option.some.inj H
                 go_wp2
                 go_ret
                 exact ⟨by first | rfl | (simp [*, errW_none, errW_some, erT_no, erV_no, erT_at, erV_at] <;> rfl), by repeat (first | (with_reducible first | exact HB.out | apply below_alloc | apply pw_below_drewN | apply below_drew1) | exact HB.out)⟩
         ·rw [if_neg c12] at H
          exact absurd H (by simp)
        ·rw [if_neg c11] at H
         exact absurd H (by simp)
       ·rw [if_neg c10] at H
        exact absurd H (by simp)
      ·rw [if_neg c9] at H
       exact absurd H (by simp)
     ·rw [if_neg c8] at H
      exact absurd H (by simp)
    ·rw [if_neg c7] at H
     have c7b0 : decide (x12_1 < (t225.length : Int)) = false := decide_eq_false c7
     clear c7
     obtain rfl := Option.some.inj H
     go_wp2
     go_ret
     exact ⟨by first | rfl | (simp [*, errW_none, errW_some, erT_no, erV_no, erT_at, erV_at] <;> rfl), by repeat (first | (with_reducible first | exact HB.out | apply below_alloc | apply pw_below_drewN | apply below_drew1) | exact HB.out)⟩
 ·rw [if_neg c3] at H
  exact absurd H (by simp)
end Go.Proofs.YtnpgadfoohjlnaaDoor.QV
