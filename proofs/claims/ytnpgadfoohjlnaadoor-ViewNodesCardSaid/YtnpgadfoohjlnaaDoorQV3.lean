/- Where a Lean function of this text answers, the Go function of its name comes to that answer: no other condition. Written by a program of this session out of the translation; Lean checks it. -/
import Derived.Test.YtnpgadfoohjlnaaDoorQV0
import Derived.Test.YtnpgadfoohjlnaaDoorQV2
namespace Go.Proofs.YtnpgadfoohjlnaaDoor.QV
open Go.RowKit Go.Proofs.YtnpgadfoohjlnaaDoorW.PrintWords Go.Proofs.YtnpgadfoohjlnaaDoorW.PrintLast Go.Proofs.YtnpgadfoohjlnaaDoorW.PrintMore Go.Proofs.YtnpgadfoohjlnaaDoorW.PrintX
attribute [local go_sem] max2_int min2_int max_two min_two max_three min_three max_four min_four   -- for this text's walks alone
set_option linter.unusedVariables false
set_option linter.unusedSimpArgs false

/-! ### cavilref13_parents: function 52 -/
mutual
def cavilref13_parents.l0 : Nat → Int → Int → Int → List (S33) → Option (Int)
 | 0, _, _, _, _ => none
 | k + 1, x1, x5, x6, x110000 => if x6 < (x110000.length : Int) then (cavilref13_parents.l1 k x1 x5 x6 0 x110000) else (some x5)
def cavilref13_parents.l1 : Nat → Int → Int → Int → Int → List (S33) → Option (Int)
 | 0, _, _, _, _, _ => none
 | k + 1, x1, x5, x6, x7, x110000 => if 0 ≤ x6 then (if x6 < (x110000.length : Int) then (if x7 < (((rd_T33 x110000 x6).f3).length : Int) then (if 0 ≤ x7 then (if (rd ((rd_T33 x110000 x6).f3) x7) = x1 then (cavilref13_parents.l1 k x1 (wrap64 (x5 + 1)) x6 (wrap64 (x7 + 1)) x110000) else (cavilref13_parents.l1 k x1 x5 x6 (wrap64 (x7 + 1)) x110000)) else (none)) else (cavilref13_parents.l0 k x1 x5 (wrap64 (x6 + 1)) x110000)) else (none)) else (none)
end
def cavilref13_parents.f (k : Nat) (l0_0 : List (S33)) (a1 : Int) : Option (Int) := cavilref13_parents.l0 k a1 0 0 l0_0
theorem cavilref13_parents.mono_l : ∀ k, (∀ y0 y1 y2 y3, LeO (cavilref13_parents.l0 k y0 y1 y2 y3) (cavilref13_parents.l0 (k + 1) y0 y1 y2 y3)) ∧ (∀ y0 y1 y2 y3 y4, LeO (cavilref13_parents.l1 k y0 y1 y2 y3 y4) (cavilref13_parents.l1 (k + 1) y0 y1 y2 y3 y4))
 | 0 => ⟨fun _ _ _ _ r h => by simp [cavilref13_parents.l0] at h, fun _ _ _ _ _ r h => by simp [cavilref13_parents.l1] at h⟩
 | k + 1 => by
  obtain ⟨ih0, ih1⟩ := cavilref13_parents.mono_l k
  refine ⟨?_, ?_⟩
  ·intro y0 y1 y2 y3
   unfold cavilref13_parents.l0
   repeat' first
   | (with_reducible exact ih0 _ _ _ _)
   | (with_reducible exact ih1 _ _ _ _ _)
   | (with_reducible exact LeO.refl _)
   | (with_reducible exact LeO.none _)
   | (with_reducible refine LeO.ite ?_ ?_)
   | (with_reducible refine LeO.bind ?_ (fun _ => ?_))
   | exact ih0 _ _ _ _
   | exact ih1 _ _ _ _ _
   | exact LeO.none _
   | refine LeO.ite ?_ ?_
   | refine LeO.bind ?_ (fun _ => ?_)
  ·intro y0 y1 y2 y3 y4
   unfold cavilref13_parents.l1
   repeat' first
   | (with_reducible exact ih0 _ _ _ _)
   | (with_reducible exact ih1 _ _ _ _ _)
   | (with_reducible exact LeO.refl _)
   | (with_reducible exact LeO.none _)
   | (with_reducible refine LeO.ite ?_ ?_)
   | (with_reducible refine LeO.bind ?_ (fun _ => ?_))
   | exact ih0 _ _ _ _
   | exact ih1 _ _ _ _ _
   | exact LeO.none _
   | refine LeO.ite ?_ ?_
   | refine LeO.bind ?_ (fun _ => ?_)
theorem cavilref13_parents.mono : ∀ a0 a1 k, LeO (cavilref13_parents.f k a0 a1) (cavilref13_parents.f (k + 1) a0 a1) := by
 intro a0 a1 k
 obtain ⟨ih0, ih1⟩ := cavilref13_parents.mono_l k
 unfold cavilref13_parents.f
 repeat' first
   | (with_reducible exact ih0 _ _ _ _)
   | (with_reducible exact ih1 _ _ _ _ _)
   | (with_reducible exact LeO.refl _)
   | (with_reducible exact LeO.none _)
   | (with_reducible refine LeO.ite ?_ ?_)
   | (with_reducible refine LeO.bind ?_ (fun _ => ?_))
   | exact ih0 _ _ _ _
   | exact ih1 _ _ _ _ _
   | exact LeO.none _
   | refine LeO.ite ?_ ?_
   | refine LeO.bind ?_ (fun _ => ?_)
set_option maxHeartbeats 8000000 in
set_option maxRecDepth 100000 in
theorem cavilref13_parents.calls (k : Nat) (A0_0 : Option Addr) (c0_0 : Nat) (l0_0 : List (S33)) (a1 : Int) (r : Int) (w : World) (hr0_0 : Kd.C k33 w A0_0 l0_0.length l0_0) (hc0_0 : l0_0.length ≤ c0_0) (h : cavilref13_parents.f k l0_0 a1 = some r) :
  Calls Tryd.prog 52 #[.agg #[.slice A0_0 l0_0.length c0_0], .int .i64 a1] w fun e w' => e = .returned (.int .i64 r) ∧ Below w.heap.size w w' := by
 have hu24 := Tryd.underlying24
 have HR0_0 := Aside0.mk hr0_0
 have HC0_0 := Aside0.mk hc0_0
 clear hr0_0 hc0_0
 have HB := Aside0.mk (Below.refl w.heap.size w)
 have H : (cavilref13_parents.l0 k a1 0 0 l0_0) = some r := h
 clear h
 have H' := Aside0.mk H
 clear H
 go_enter Tryd.func52, Tryd.ntmps52
 go_wp2_with (first | ((with_reducible refine gate_dst (N := 2) rfl ?_); refine box_event ?hg (N := 2) ?hd (cs := #[.slice A0_0 l0_0.length c0_0]) (t := 24) ?hr ?_; (case hd => rfl); (case hg => rfl); (case hr => first | (go_simp; done) | (go_simp; rfl)); intro gb109 hg w3 hbox hb; have n0_ := Aside0.mk (below_step (go_b HB.out) hb); have n1_ := Aside0.mk (hbox); have n2_ := Aside0.mk ((by rw [hg]; exact (below_size (go_b HB.out)) : w.heap.size ≤ gb109)); have n3_ := n2_; clear HB; have HB := n0_; have BK109 := n1_; have GW109 := n2_; have GE109 := n3_; clear n0_ n1_ n2_ n3_; clear hb hbox hg))
 go_loopg [5, 6] k (fun kq v5 v6 w' => ∃ (x5_1 : Int) (x6_1 : Int), v5 = .int .i64 x5_1 ∧ v6 = .int .i64 x6_1 ∧ Aside0 (cavilref13_parents.l0 kq a1 x5_1 x6_1 l0_0 = some r) ∧ Aside0 (kq ≤ k) ∧ Aside0 (w'.heap[gb109]? = some (.cells #[(.slice A0_0 l0_0.length c0_0)] 24 (0, 0))) ∧ Aside0 (Below w.heap.size w w'))
 case atStart => exact ⟨(0), (0), (by first | rfl | (simp; done) | (simp [*]; done)), (by first | rfl | (simp; done) | (simp [*]; done)), H', ⟨Nat.le_refl _⟩, ⟨by (with_reducible repeat (first | refine blk_drewN ?_ _ | refine blk_drew ?_ | refine blk_alloc ?_ _)); exact BK109.out⟩, ⟨by repeat (first | (with_reducible first | exact HB.out | apply below_alloc | apply pw_below_drewN | apply below_drew1 | refine below_set ?_ GE109.out) | exact HB.out)⟩⟩
 case round =>
  clear H'
  try clear p2
  obtain ⟨x5_1, x6_1, rfl, rfl, HA, HK1, BK109, HB⟩ := hrel
  cases gk with
  | zero => exact absurd HA.out (by simp [cavilref13_parents.l0])
  | succ k1 =>
   have H := HA.out
   clear HA
   simp only [cavilref13_parents.l0] at H
   by_cases c4 : x6_1 < (l0_0.length : Int)
   ·rw [if_pos c4] at H
    have c4b0 : decide (x6_1 < (l0_0.length : Int)) = true := decide_eq_true c4
    clear c4
    have H' := Aside0.mk H
    clear H
    have hcz5_0 : wr.cell? ⟨gb109, 0, none⟩ = some (.slice A0_0 l0_0.length c0_0) := (blk_cell BK109.out 0).trans rfl
    have hfz5_0 := blk_frozen BK109.out 0
    go_wp2
    go_loopg [5, 7] k1 (fun kq v5 v7 w' => ∃ (x5_2 : Int) (x7_2 : Int), v5 = .int .i64 x5_2 ∧ v7 = .int .i64 x7_2 ∧ Aside0 (cavilref13_parents.l1 kq a1 x5_2 x6_1 x7_2 l0_0 = some r) ∧ Aside0 (kq ≤ k1) ∧ Aside0 (w'.heap[gb109]? = some (.cells #[(.slice A0_0 l0_0.length c0_0)] 24 (0, 0))) ∧ Aside0 (Below w.heap.size w w'))
    case atStart => exact ⟨(x5_1), (0), (by first | rfl | (simp; done) | (simp [*]; done)), (by first | rfl | (simp; done) | (simp [*]; done)), H', ⟨Nat.le_refl _⟩, ⟨by (with_reducible repeat (first | refine blk_drewN ?_ _ | refine blk_drew ?_ | refine blk_alloc ?_ _)); exact BK109.out⟩, ⟨by repeat (first | (with_reducible first | exact HB.out | apply below_alloc | apply pw_below_drewN | apply below_drew1 | refine below_set ?_ GE109.out) | exact HB.out)⟩⟩
    case round =>
     clear H'
     try clear p2
     try clear c4
     try clear c4b0
     try clear c5
     try clear hcz5_0
     try clear hfz5_0
     try clear p2
     obtain ⟨x5_2, x7_2, rfl, rfl, HA, HK2, BK109, HB⟩ := hrel
     cases gk with
     | zero => exact absurd HA.out (by simp [cavilref13_parents.l1])
     | succ k2 =>
      have H := HA.out
      clear HA
      simp only [cavilref13_parents.l1] at H
      by_cases c6 : 0 ≤ x6_1
      ·rw [if_pos c6] at H
       have c6b0 : decide (0 ≤ x6_1) = true := decide_eq_true c6
       clear c6
       by_cases c7 : x6_1 < (l0_0.length : Int)
       ·rw [if_pos c7] at H
        have c7b0 : decide (x6_1 < (l0_0.length : Int)) = true := decide_eq_true c7
        clear c7
        by_cases c8 : x7_2 < (((rd_T33 l0_0 x6_1).f3).length : Int)
        ·rw [if_pos c8] at H
         have c8b0 : decide (x7_2 < (((rd_T33 l0_0 x6_1).f3).length : Int)) = true := decide_eq_true c8
         clear c8
         by_cases c9 : 0 ≤ x7_2
         ·rw [if_pos c9] at H
          have c9b0 : decide (0 ≤ x7_2) = true := decide_eq_true c9
          clear c9
          by_cases c10 : (rd ((rd_T33 l0_0 x6_1).f3) x7_2) = a1
          ·rw [if_pos c10] at H
           have c10b0 : ((rd ((rd_T33 l0_0 x6_1).f3) x7_2) == a1) = true := beq_iff_eq.mpr c10
           have c10b1 : ((rd ((rd_T33 l0_0 x6_1).f3) x7_2) != a1) = false := bne_eq_false_iff_eq.mpr c10
           clear c10
           have H' := Aside0.mk H
           clear H
           have hcz11_0 : wr.cell? ⟨gb109, 0, none⟩ = some (.slice A0_0 l0_0.length c0_0) := (blk_cell BK109.out 0).trans rfl
           have hfz11_0 := blk_frozen BK109.out 0
           have p110 : 0 ≤ (x6_1 : Int) := of_dec
           have q110 : x6_1 < (l0_0.length : Int) := of_dec
           obtain ⟨ad110, A110_3, c110_3, e110, hx110_0, hx110_1, hx110_2, hx110_3, hl110_3, hi110_3⟩ := at_T33 HR0_0.out x6_1 p110 q110
           cases e110
           replace hx110_0 := cell_b HB.out hx110_0
           replace hx110_1 := cell_b HB.out hx110_1
           replace hx110_2 := cell_b HB.out hx110_2
           replace hx110_3 := cell_b HB.out hx110_3
           have HR110_3 := Aside0.mk hi110_3
           have HC110_3 := Aside0.mk hl110_3
           clear hi110_3 hl110_3
           replace p110 := eq_true p110
           replace q110 := eq_true q110
           have p111 : 0 ≤ (x6_1 : Int) := of_dec
           have q111 : x6_1 < (l0_0.length : Int) := of_dec
           obtain ⟨ad111, A111_3, c111_3, e111, hx111_0, hx111_1, hx111_2, hx111_3, hl111_3, hi111_3⟩ := at_T33 HR0_0.out x6_1 p111 q111
           obtain rfl : ad110 = ad111 := (by injection e111)
           replace hx111_0 := cell_b HB.out hx111_0
           replace hx111_1 := cell_b HB.out hx111_1
           replace hx111_2 := cell_b HB.out hx111_2
           replace hx111_3 := cell_b HB.out hx111_3
           have HR111_3 := Aside0.mk hi111_3
           have HC111_3 := Aside0.mk hl111_3
           clear hi111_3 hl111_3
           replace p111 := eq_true p111
           replace q111 := eq_true q111
           have ea_ := Option.some.inj (hx110_3.symm.trans hx111_3)
           injection ea_ with ea_ en_ ec_
           subst ea_
           subst ec_
           clear en_
           have p112 : 0 ≤ (x7_2 : Int) := of_dec
           have q112 : x7_2 < (((rd_T33 l0_0 x6_1).f3).length : Int) := of_dec
           obtain ⟨ad112, e112, hx112_0⟩ := Kd.at_int HR111_3.out x7_2 p112 q112
           cases e112
           replace hx112_0 := cell_b HB.out hx112_0
           replace p112 := eq_true p112
           replace q112 := eq_true q112
           go_wp2
           go_roundg k2
           case measure => have := HK1.out; have := HK2.out; omega
           case rel => exact ⟨(wrap64 (x5_2 + 1)), (wrap64 (x7_2 + 1)), (by first | rfl | (simp; done) | (simp [*]; done)), (by first | rfl | (simp; done) | (simp [*]; done)), H', ⟨by have := HK1.out; have := HK2.out; omega⟩, ⟨by (with_reducible repeat (first | refine blk_drewN ?_ _ | refine blk_drew ?_ | refine blk_alloc ?_ _)); exact BK109.out⟩, ⟨by repeat (first | (with_reducible first | exact HB.out | apply below_alloc | apply pw_below_drewN | apply below_drew1 | refine below_set ?_ GE109.out) | exact HB.out)⟩⟩
          ·rw [if_neg c10] at H
           have c10b0 : ((rd ((rd_T33 l0_0 x6_1).f3) x7_2) == a1) = false := beq_eq_false_iff_ne.mpr c10
           have c10b1 : ((rd ((rd_T33 l0_0 x6_1).f3) x7_2) != a1) = true := bne_iff_ne.mpr c10
           have H' := Aside0.mk H
           clear H
           have hcz12_0 : wr.cell? ⟨gb109, 0, none⟩ = some (.slice A0_0 l0_0.length c0_0) := (blk_cell BK109.out 0).trans rfl
           have hfz12_0 := blk_frozen BK109.out 0
           have p110 : 0 ≤ (x6_1 : Int) := of_dec
           have q110 : x6_1 < (l0_0.length : Int) := of_dec
           obtain ⟨ad110, A110_3, c110_3, e110, hx110_0, hx110_1, hx110_2, hx110_3, hl110_3, hi110_3⟩ := at_T33 HR0_0.out x6_1 p110 q110
           cases e110
           replace hx110_0 := cell_b HB.out hx110_0
           replace hx110_1 := cell_b HB.out hx110_1
           replace hx110_2 := cell_b HB.out hx110_2
           replace hx110_3 := cell_b HB.out hx110_3
           have HR110_3 := Aside0.mk hi110_3
           have HC110_3 := Aside0.mk hl110_3
           clear hi110_3 hl110_3
           replace p110 := eq_true p110
           replace q110 := eq_true q110
           have p111 : 0 ≤ (x6_1 : Int) := of_dec
           have q111 : x6_1 < (l0_0.length : Int) := of_dec
           obtain ⟨ad111, A111_3, c111_3, e111, hx111_0, hx111_1, hx111_2, hx111_3, hl111_3, hi111_3⟩ := at_T33 HR0_0.out x6_1 p111 q111
           obtain rfl : ad110 = ad111 := (by injection e111)
           replace hx111_0 := cell_b HB.out hx111_0
           replace hx111_1 := cell_b HB.out hx111_1
           replace hx111_2 := cell_b HB.out hx111_2
           replace hx111_3 := cell_b HB.out hx111_3
           have HR111_3 := Aside0.mk hi111_3
           have HC111_3 := Aside0.mk hl111_3
           clear hi111_3 hl111_3
           replace p111 := eq_true p111
           replace q111 := eq_true q111
           have ea_ := Option.some.inj (hx110_3.symm.trans hx111_3)
           injection ea_ with ea_ en_ ec_
           subst ea_
           subst ec_
           clear en_
           have p112 : 0 ≤ (x7_2 : Int) := of_dec
           have q112 : x7_2 < (((rd_T33 l0_0 x6_1).f3).length : Int) := of_dec
           obtain ⟨ad112, e112, hx112_0⟩ := Kd.at_int HR111_3.out x7_2 p112 q112
           cases e112
           replace hx112_0 := cell_b HB.out hx112_0
           replace p112 := eq_true p112
           replace q112 := eq_true q112
           go_wp2
           go_roundg k2
           case measure => have := HK1.out; have := HK2.out; omega
           case rel => exact ⟨(x5_2), (wrap64 (x7_2 + 1)), (by first | rfl | (simp; done) | (simp [*]; done)), (by first | rfl | (simp; done) | (simp [*]; done)), H', ⟨by have := HK1.out; have := HK2.out; omega⟩, ⟨by (with_reducible repeat (first | refine blk_drewN ?_ _ | refine blk_drew ?_ | refine blk_alloc ?_ _)); exact BK109.out⟩, ⟨by repeat (first | (with_reducible first | exact HB.out | apply below_alloc | apply pw_below_drewN | apply below_drew1 | refine below_set ?_ GE109.out) | exact HB.out)⟩⟩
         ·rw [if_neg c9] at H
          exact absurd H (by simp)
        ·rw [if_neg c8] at H
         have c8b0 : decide (x7_2 < (((rd_T33 l0_0 x6_1).f3).length : Int)) = false := decide_eq_false c8
         clear c8
         have H' := Aside0.mk H
         clear H
         have hcz13_0 : wr.cell? ⟨gb109, 0, none⟩ = some (.slice A0_0 l0_0.length c0_0) := (blk_cell BK109.out 0).trans rfl
         have hfz13_0 := blk_frozen BK109.out 0
         have p110 : 0 ≤ (x6_1 : Int) := of_dec
         have q110 : x6_1 < (l0_0.length : Int) := of_dec
         obtain ⟨ad110, A110_3, c110_3, e110, hx110_0, hx110_1, hx110_2, hx110_3, hl110_3, hi110_3⟩ := at_T33 HR0_0.out x6_1 p110 q110
         cases e110
         replace hx110_0 := cell_b HB.out hx110_0
         replace hx110_1 := cell_b HB.out hx110_1
         replace hx110_2 := cell_b HB.out hx110_2
         replace hx110_3 := cell_b HB.out hx110_3
         have HR110_3 := Aside0.mk hi110_3
         have HC110_3 := Aside0.mk hl110_3
         clear hi110_3 hl110_3
         replace p110 := eq_true p110
         replace q110 := eq_true q110
         go_wp2
         go_roundg k2
         case measure => have := HK1.out; have := HK2.out; omega
         case rel => exact ⟨(x5_2), (wrap64 (x6_1 + 1)), (by first | rfl | (simp; done) | (simp [*]; done)), (by first | rfl | (simp; done) | (simp [*]; done)), H', ⟨by have := HK1.out; have := HK2.out; omega⟩, ⟨by (with_reducible repeat (first | refine blk_drewN ?_ _ | refine blk_drew ?_ | refine blk_alloc ?_ _)); exact BK109.out⟩, ⟨by repeat (first | (with_reducible first | exact HB.out | apply below_alloc | apply pw_below_drewN | apply below_drew1 | refine below_set ?_ GE109.out) | exact HB.out)⟩⟩
       ·rw [if_neg c7] at H
        exact absurd H (by simp)
      ·rw [if_neg c6] at H
       exact absurd H (by simp)
   ·rw [if_neg c4] at H
    have c4b0 : decide (x6_1 < (l0_0.length : Int)) = false := decide_eq_false c4
    clear c4
    obtain rfl := Option.some.inj H
    have hcz14_0 : wr.cell? ⟨gb109, 0, none⟩ = some (.slice A0_0 l0_0.length c0_0) := (blk_cell BK109.out 0).trans rfl
    have hfz14_0 := blk_frozen BK109.out 0
    go_wp2
    go_ret
    exact ⟨by first | rfl | (simp [*, errW_none, errW_some, erT_no, erV_no, erT_at, erV_at] <;> rfl), by repeat (first | (with_reducible first | exact HB.out | apply below_alloc | apply pw_below_drewN | apply below_drew1 | refine below_set ?_ GE109.out) | exact HB.out)⟩

/-! ### cavilref13_Check: function 12 -/
mutual
def cavilref13_Check.l0 : Nat → Int → Int → List (S33) → Option (Int × Int)
 | 0, _, _, _ => none
 | k + 1, x1, x6, x114000 => if x6 < (x114000.length : Int) then ((cavilref13_one.f k x114000 x6 x1).bind fun t114 => (if t114 = true then (cavilref13_Check.l0 k x1 (wrap64 (x6 + 1)) x114000) else (some (8, x6)))) else (cavilref13_Check.l1 k 0 x114000)
def cavilref13_Check.l1 : Nat → Int → List (S33) → Option (Int × Int)
 | 0, _, _ => none
 | k + 1, x7, x114000 => if x7 < (wrap64 ((x114000.length : Int) - 1)) then ((cavilref13_parents.f k x114000 x7).bind fun t115 => (if t115 = 1 then (cavilref13_Check.l1 k (wrap64 (x7 + 1)) x114000) else (some (8, x7)))) else (some (0, (-1)))
end
def cavilref13_Check.f (k : Nat) (l0_0 : List (S33)) (a1 : Int) : Option (Int × Int) := if (l0_0.length : Int) = 0 then (some (7, (-1))) else (cavilref13_Check.l0 k a1 0 l0_0)
theorem cavilref13_Check.mono_l : ∀ k, (∀ y0 y1 y2, LeO (cavilref13_Check.l0 k y0 y1 y2) (cavilref13_Check.l0 (k + 1) y0 y1 y2)) ∧ (∀ y0 y1, LeO (cavilref13_Check.l1 k y0 y1) (cavilref13_Check.l1 (k + 1) y0 y1))
 | 0 => ⟨fun _ _ _ r h => by simp [cavilref13_Check.l0] at h, fun _ _ r h => by simp [cavilref13_Check.l1] at h⟩
 | k + 1 => by
  obtain ⟨ih0, ih1⟩ := cavilref13_Check.mono_l k
  refine ⟨?_, ?_⟩
  ·intro y0 y1 y2
   unfold cavilref13_Check.l0
   repeat' first
   | (with_reducible exact ih0 _ _ _)
   | (with_reducible exact ih1 _ _)
   | (with_reducible exact cavilref13_one.mono _ _ _ _)
   | (with_reducible exact cavilref13_parents.mono _ _ _)
   | (with_reducible exact LeO.refl _)
   | (with_reducible exact LeO.none _)
   | (with_reducible refine LeO.ite ?_ ?_)
   | (with_reducible refine LeO.bind ?_ (fun _ => ?_))
   | exact ih0 _ _ _
   | exact ih1 _ _
   | exact cavilref13_one.mono _ _ _ _
   | exact cavilref13_parents.mono _ _ _
   | exact LeO.none _
   | refine LeO.ite ?_ ?_
   | refine LeO.bind ?_ (fun _ => ?_)
  ·intro y0 y1
   unfold cavilref13_Check.l1
   repeat' first
   | (with_reducible exact ih0 _ _ _)
   | (with_reducible exact ih1 _ _)
   | (with_reducible exact cavilref13_one.mono _ _ _ _)
   | (with_reducible exact cavilref13_parents.mono _ _ _)
   | (with_reducible exact LeO.refl _)
   | (with_reducible exact LeO.none _)
   | (with_reducible refine LeO.ite ?_ ?_)
   | (with_reducible refine LeO.bind ?_ (fun _ => ?_))
   | exact ih0 _ _ _
   | exact ih1 _ _
   | exact cavilref13_one.mono _ _ _ _
   | exact cavilref13_parents.mono _ _ _
   | exact LeO.none _
   | refine LeO.ite ?_ ?_
   | refine LeO.bind ?_ (fun _ => ?_)
theorem cavilref13_Check.mono : ∀ a0 a1 k, LeO (cavilref13_Check.f k a0 a1) (cavilref13_Check.f (k + 1) a0 a1) := by
 intro a0 a1 k
 obtain ⟨ih0, ih1⟩ := cavilref13_Check.mono_l k
 unfold cavilref13_Check.f
 repeat' first
   | (with_reducible exact ih0 _ _ _)
   | (with_reducible exact ih1 _ _)
   | (with_reducible exact cavilref13_one.mono _ _ _ _)
   | (with_reducible exact cavilref13_parents.mono _ _ _)
   | (with_reducible exact LeO.refl _)
   | (with_reducible exact LeO.none _)
   | (with_reducible refine LeO.ite ?_ ?_)
   | (with_reducible refine LeO.bind ?_ (fun _ => ?_))
   | exact ih0 _ _ _
   | exact ih1 _ _
   | exact cavilref13_one.mono _ _ _ _
   | exact cavilref13_parents.mono _ _ _
   | exact LeO.none _
   | refine LeO.ite ?_ ?_
   | refine LeO.bind ?_ (fun _ => ?_)
set_option maxHeartbeats 8000000 in
set_option maxRecDepth 100000 in
theorem cavilref13_Check.calls (k : Nat) (A0_0 : Option Addr) (c0_0 : Nat) (l0_0 : List (S33)) (a1 : Int) (r1 : Int) (r2 : Int) (w : World) (hr0_0 : Kd.C k33 w A0_0 l0_0.length l0_0) (hc0_0 : l0_0.length ≤ c0_0) (h : cavilref13_Check.f k l0_0 a1 = some (r1, r2)) :
  Calls Tryd.prog 12 #[.agg #[.slice A0_0 l0_0.length c0_0], .int .i64 a1] w fun e w' => e = .returned (.tuple #[.int .i64 r1, .int .i64 r2]) ∧ Below w.heap.size w w' := by
 have hu24 := Tryd.underlying24
 have HR0_0 := Aside0.mk hr0_0
 have HC0_0 := Aside0.mk hc0_0
 clear hr0_0 hc0_0
 have HB := Aside0.mk (Below.refl w.heap.size w)
 have H : (if (l0_0.length : Int) = 0 then (some (7, (-1))) else (cavilref13_Check.l0 k a1 0 l0_0)) = some (r1, r2) := h
 clear h
 by_cases c3 : (l0_0.length : Int) = 0
 ·rw [if_pos c3] at H
  have c3b0 : ((l0_0.length : Int) == 0) = true := beq_iff_eq.mpr c3
  have c3b1 : ((l0_0.length : Int) != 0) = false := bne_eq_false_iff_eq.mpr c3
  clear c3
  simp only [Option.some.injEq, Prod.mk.injEq] at H
  obtain ⟨rfl, rfl⟩ := H
  go_enter Tryd.func12, Tryd.ntmps12
  go_wp2_with (first | ((with_reducible refine gate_dst (N := 2) rfl ?_); refine box_event ?hg (N := 2) ?hd (cs := #[.slice A0_0 l0_0.length c0_0]) (t := 24) ?hr ?_; (case hd => rfl); (case hg => rfl); (case hr => first | (go_simp; done) | (go_simp; rfl)); intro gb113 hg w4 hbox hb; have n0_ := Aside0.mk (below_step (go_b HB.out) hb); have n1_ := Aside0.mk (hbox); have n2_ := Aside0.mk ((by rw [hg]; exact (below_size (go_b HB.out)) : w.heap.size ≤ gb113)); have n3_ := n2_; clear HB; have HB := n0_; have BK113 := n1_; have GW113 := n2_; have GE113 := n3_; clear n0_ n1_ n2_ n3_; clear hb hbox hg; have hcz5_0 : w4.cell? ⟨gb113, 0, none⟩ = some (.slice A0_0 l0_0.length c0_0) := (blk_cell BK113.out 0).trans rfl; have hfz5_0 := blk_frozen BK113.out 0))
  go_ret2
  exact ⟨by first | rfl | (simp [*, errW_none, errW_some, erT_no, erV_no, erT_at, erV_at] <;> rfl), by repeat (first | (with_reducible first | exact HB.out | apply below_alloc | apply pw_below_drewN | apply below_drew1 | refine below_set ?_ GE113.out) | exact HB.out)⟩
 ·rw [if_neg c3] at H
  have c3b0 : ((l0_0.length : Int) == 0) = false := beq_eq_false_iff_ne.mpr c3
  have c3b1 : ((l0_0.length : Int) != 0) = true := bne_iff_ne.mpr c3
  have c3b2 : ¬ (l0_0 = []) := fun h_ => c3 (by rw [h_]; rfl)
  have H' := Aside0.mk H
  clear H
  go_enter Tryd.func12, Tryd.ntmps12
  go_wp2_with (first | ((with_reducible refine gate_dst (N := 2) rfl ?_); refine box_event ?hg (N := 2) ?hd (cs := #[.slice A0_0 l0_0.length c0_0]) (t := 24) ?hr ?_; (case hd => rfl); (case hg => rfl); (case hr => first | (go_simp; done) | (go_simp; rfl)); intro gb113 hg w6 hbox hb; have n0_ := Aside0.mk (below_step (go_b HB.out) hb); have n1_ := Aside0.mk (hbox); have n2_ := Aside0.mk ((by rw [hg]; exact (below_size (go_b HB.out)) : w.heap.size ≤ gb113)); have n3_ := n2_; clear HB; have HB := n0_; have BK113 := n1_; have GW113 := n2_; have GE113 := n3_; clear n0_ n1_ n2_ n3_; clear hb hbox hg; have hcz7_0 : w6.cell? ⟨gb113, 0, none⟩ = some (.slice A0_0 l0_0.length c0_0) := (blk_cell BK113.out 0).trans rfl; have hfz7_0 := blk_frozen BK113.out 0))
  go_loopg [6] k (fun kq v6 w' => ∃ (x6_1 : Int), v6 = .int .i64 x6_1 ∧ Aside0 (cavilref13_Check.l0 kq a1 x6_1 l0_0 = some (r1, r2)) ∧ Aside0 (kq ≤ k) ∧ Aside0 (w'.heap[gb113]? = some (.cells #[(.slice A0_0 l0_0.length c0_0)] 24 (0, 0))) ∧ Aside0 (Below w.heap.size w w'))
  case atStart => exact ⟨(0), (by first | rfl | (simp; done) | (simp [*]; done)), H', ⟨Nat.le_refl _⟩, ⟨by (with_reducible repeat (first | refine blk_drewN ?_ _ | refine blk_drew ?_ | refine blk_alloc ?_ _)); exact BK113.out⟩, ⟨by repeat (first | (with_reducible first | exact HB.out | apply below_alloc | apply pw_below_drewN | apply below_drew1 | refine below_set ?_ GE113.out) | exact HB.out)⟩⟩
  case round =>
   clear H'
   try clear c1
   try clear p2
   try clear c3
   try clear c3b0
   try clear c3b1
   try clear c3b2
   try clear hcz5_0
   try clear hcz7_0
   try clear hfz5_0
   try clear hfz7_0
   obtain ⟨x6_1, rfl, HA, HK1, BK113, HB⟩ := hrel
   cases gk with
   | zero => exact absurd HA.out (by simp [cavilref13_Check.l0])
   | succ k1 =>
    have H := HA.out
    clear HA
    simp only [cavilref13_Check.l0] at H
    by_cases c8 : x6_1 < (l0_0.length : Int)
    ·rw [if_pos c8] at H
     have c8b0 : decide (x6_1 < (l0_0.length : Int)) = true := decide_eq_true c8
     clear c8
     replace H := Option.bind_eq_some_iff.mp H
     obtain ⟨t114, A90, H⟩ := H
     replace H : (if t114 = true then (cavilref13_Check.l0 k1 a1 (wrap64 (x6_1 + 1)) l0_0) else (some (8, x6_1))) = some (r1, r2) := H
     have A9 := Aside0.mk A90
     clear A90
     by_cases c10 : t114 = true
     ·subst c10
      have H1 : (cavilref13_Check.l0 k1 a1 (wrap64 (x6_1 + 1)) l0_0) = some (r1, r2) := by rw [if_pos rfl] at H; exact H
      clear H
      have H := H1
      clear H1
      have H' := Aside0.mk H
      clear H
      have hcz11_0 : wr.cell? ⟨gb113, 0, none⟩ = some (.slice A0_0 l0_0.length c0_0) := (blk_cell BK113.out 0).trans rfl
      have hfz11_0 := blk_frozen BK113.out 0
      go_wp2_with (first | ((with_reducible refine gate_callee (f := 51) rfl ?_); refine goesL_ (some 22) rfl rfl Tryd.func51 (by kernel_rfl) rfl #[.agg #[.slice A0_0 l0_0.length c0_0], .int .i64 x6_1, .int .i64 a1] rfl (by (try simp only [List.map_toArray, List.map_cons, List.map_nil]); first | done | rfl | (simp only [List.length_drop, List.length_take]; rfl)) ?_; (with_reducible refine (cavilref13_one.calls k1 _ _ l0_0 x6_1 a1 true _ ?side1 ?side2 A9.out).mono ?_); (case side1 => repeat (first | exact (Kd.C_below HR0_0.out HB.out) | (with_reducible refine Kd.C_alloc ?_ _) | (with_reducible refine Kd.C_drewN ?_ _) | (with_reducible refine Kd.C_drew ?_))); (case side2 => exact HC0_0.out); rintro e w12 ⟨rfl, hb⟩; refine ⟨_, rfl, ?_⟩; have n0_ := Aside0.mk (blk_below (g := gb113) (o := .cells #[.slice A0_0 l0_0.length c0_0] 24 (0, 0)) (go_k BK113.out) hb); have n1_ := Aside0.mk (below_step (go_b1 HB.out GE113.out) hb); clear BK113; clear HB; have BK113 := n0_; have HB := n1_; clear n0_ n1_; (try clear hb); (try clear hb2); (try clear hk); (try clear hi)))
      go_roundg k1
      case measure => have := HK1.out; omega
      case rel => exact ⟨(wrap64 (x6_1 + 1)), (by first | rfl | (simp; done) | (simp [*]; done)), H', ⟨by have := HK1.out; omega⟩, ⟨by (with_reducible repeat (first | refine blk_drewN ?_ _ | refine blk_drew ?_ | refine blk_alloc ?_ _)); exact BK113.out⟩, ⟨by repeat (first | (with_reducible first | exact HB.out | apply below_alloc | apply pw_below_drewN | apply below_drew1 | refine below_set ?_ GE113.out) | exact HB.out)⟩⟩
     ·replace c10 := Bool.eq_false_iff.mpr c10
      subst c10
      have H1 : (some (8, x6_1)) = some (r1, r2) := by rw [if_neg (show ¬ (false = true) by decide)] at H; exact H
      clear H
      have H := H1
      clear H1
      simp only [Option.some.injEq, Prod.mk.injEq] at H
      obtain ⟨rfl, rfl⟩ := H
      have hcz13_0 : wr.cell? ⟨gb113, 0, none⟩ = some (.slice A0_0 l0_0.length c0_0) := (blk_cell BK113.out 0).trans rfl
      have hfz13_0 := blk_frozen BK113.out 0
      go_wp2_with (first | ((with_reducible refine gate_callee (f := 51) rfl ?_); refine goesL_ (some 22) rfl rfl Tryd.func51 (by kernel_rfl) rfl #[.agg #[.slice A0_0 l0_0.length c0_0], .int .i64 x6_1, .int .i64 a1] rfl (by (try simp only [List.map_toArray, List.map_cons, List.map_nil]); first | done | rfl | (simp only [List.length_drop, List.length_take]; rfl)) ?_; (with_reducible refine (cavilref13_one.calls k1 _ _ l0_0 x6_1 a1 false _ ?side1 ?side2 A9.out).mono ?_); (case side1 => repeat (first | exact (Kd.C_below HR0_0.out HB.out) | (with_reducible refine Kd.C_alloc ?_ _) | (with_reducible refine Kd.C_drewN ?_ _) | (with_reducible refine Kd.C_drew ?_))); (case side2 => exact HC0_0.out); rintro e w14 ⟨rfl, hb⟩; refine ⟨_, rfl, ?_⟩; have n0_ := Aside0.mk (blk_below (g := gb113) (o := .cells #[.slice A0_0 l0_0.length c0_0] 24 (0, 0)) (go_k BK113.out) hb); have n1_ := Aside0.mk (below_step (go_b1 HB.out GE113.out) hb); clear BK113; clear HB; have BK113 := n0_; have HB := n1_; clear n0_ n1_; (try clear hb); (try clear hb2); (try clear hk); (try clear hi)))
      go_ret2
      exact ⟨by first | rfl | (simp [*, errW_none, errW_some, erT_no, erV_no, erT_at, erV_at] <;> rfl), by repeat (first | (with_reducible first | exact HB.out | apply below_alloc | apply pw_below_drewN | apply below_drew1 | refine below_set ?_ GE113.out) | exact HB.out)⟩
    ·rw [if_neg c8] at H
     have c8b0 : decide (x6_1 < (l0_0.length : Int)) = false := decide_eq_false c8
     clear c8
     have H' := Aside0.mk H
     clear H
     have hcz15_0 : wr.cell? ⟨gb113, 0, none⟩ = some (.slice A0_0 l0_0.length c0_0) := (blk_cell BK113.out 0).trans rfl
     have hfz15_0 := blk_frozen BK113.out 0
     go_wp2
     go_loopg [7] k1 (fun kq v7 w' => ∃ (x7_2 : Int), v7 = .int .i64 x7_2 ∧ Aside0 (cavilref13_Check.l1 kq x7_2 l0_0 = some (r1, r2)) ∧ Aside0 (kq ≤ k1) ∧ Aside0 (w'.heap[gb113]? = some (.cells #[(.slice A0_0 l0_0.length c0_0)] 24 (0, 0))) ∧ Aside0 (Below w.heap.size w w'))
     case atStart => exact ⟨(0), (by first | rfl | (simp; done) | (simp [*]; done)), H', ⟨Nat.le_refl _⟩, ⟨by (with_reducible repeat (first | refine blk_drewN ?_ _ | refine blk_drew ?_ | refine blk_alloc ?_ _)); exact BK113.out⟩, ⟨by repeat (first | (with_reducible first | exact HB.out | apply below_alloc | apply pw_below_drewN | apply below_drew1 | refine below_set ?_ GE113.out) | exact HB.out)⟩⟩
     case round =>
      clear H'
      try clear c1
      try clear p2
      try clear c3
      try clear c3b0
      try clear c3b1
      try clear c3b2
      try clear c5
      try clear p6
      try clear c8
      try clear c8b0
      try clear c10
      try clear c12
      try clear hcz11_0
      try clear hcz13_0
      try clear hcz15_0
      try clear hcz5_0
      try clear hcz7_0
      try clear hfz11_0
      try clear hfz13_0
      try clear hfz15_0
      try clear hfz5_0
      try clear hfz7_0
      try clear p2
      obtain ⟨x7_2, rfl, HA, HK2, BK113, HB⟩ := hrel
      cases gk with
      | zero => exact absurd HA.out (by simp [cavilref13_Check.l1])
      | succ k2 =>
       have H := HA.out
       clear HA
       simp only [cavilref13_Check.l1] at H
       by_cases c16 : x7_2 < (wrap64 ((l0_0.length : Int) - 1))
       ·rw [if_pos c16] at H
        have c16b0 : decide (x7_2 < (wrap64 ((l0_0.length : Int) - 1))) = true := decide_eq_true c16
        (try (have c16b1 : decide (x7_2 < (IntKind.i64.wrap ((l0_0.length : Int) - 1))) = true := by simp only [i64_w]; exact decide_eq_true c16))
        clear c16
        replace H := Option.bind_eq_some_iff.mp H
        obtain ⟨t115, A170, H⟩ := H
        replace H : (if t115 = 1 then (cavilref13_Check.l1 k2 (wrap64 (x7_2 + 1)) l0_0) else (some (8, x7_2))) = some (r1, r2) := H
        have A17 := Aside0.mk A170
        clear A170
        by_cases c18 : t115 = 1
        ·rw [if_pos c18] at H
         have c18b0 : (t115 == 1) = true := beq_iff_eq.mpr c18
         have c18b1 : (t115 != 1) = false := bne_eq_false_iff_eq.mpr c18
         clear c18
         have H' := Aside0.mk H
         clear H
         have hcz19_0 : wr.cell? ⟨gb113, 0, none⟩ = some (.slice A0_0 l0_0.length c0_0) := (blk_cell BK113.out 0).trans rfl
         have hfz19_0 := blk_frozen BK113.out 0
         go_wp2_with (first | ((with_reducible refine gate_callee (f := 52) rfl ?_); refine goesL_ (some 35) rfl rfl Tryd.func52 (by kernel_rfl) rfl #[.agg #[.slice A0_0 l0_0.length c0_0], .int .i64 x7_2] rfl (by (try simp only [List.map_toArray, List.map_cons, List.map_nil]); first | done | rfl | (simp only [List.length_drop, List.length_take]; rfl)) ?_; (with_reducible refine (cavilref13_parents.calls k2 _ _ l0_0 x7_2 t115 _ ?side1 ?side2 A17.out).mono ?_); (case side1 => repeat (first | exact (Kd.C_below HR0_0.out HB.out) | (with_reducible refine Kd.C_alloc ?_ _) | (with_reducible refine Kd.C_drewN ?_ _) | (with_reducible refine Kd.C_drew ?_))); (case side2 => exact HC0_0.out); rintro e w20 ⟨rfl, hb⟩; refine ⟨_, rfl, ?_⟩; have n0_ := Aside0.mk (blk_below (g := gb113) (o := .cells #[.slice A0_0 l0_0.length c0_0] 24 (0, 0)) (go_k BK113.out) hb); have n1_ := Aside0.mk (below_step (go_b1 HB.out GE113.out) hb); clear BK113; clear HB; have BK113 := n0_; have HB := n1_; clear n0_ n1_; (try clear hb); (try clear hb2); (try clear hk); (try clear hi)))
         go_roundg k2
         case measure => have := HK1.out; have := HK2.out; omega
         case rel => exact ⟨(wrap64 (x7_2 + 1)), (by first | rfl | (simp; done) | (simp [*]; done)), H', ⟨by have := HK1.out; have := HK2.out; omega⟩, ⟨by (with_reducible repeat (first | refine blk_drewN ?_ _ | refine blk_drew ?_ | refine blk_alloc ?_ _)); exact BK113.out⟩, ⟨by repeat (first | (with_reducible first | exact HB.out | apply below_alloc | apply pw_below_drewN | apply below_drew1 | refine below_set ?_ GE113.out) | exact HB.out)⟩⟩
        ·rw [if_neg c18] at H
         have c18b0 : (t115 == 1) = false := beq_eq_false_iff_ne.mpr c18
         have c18b1 : (t115 != 1) = true := bne_iff_ne.mpr c18
         simp only [Option.some.injEq, Prod.mk.injEq] at H
         obtain ⟨rfl, rfl⟩ := H
         have hcz21_0 : wr.cell? ⟨gb113, 0, none⟩ = some (.slice A0_0 l0_0.length c0_0) := (blk_cell BK113.out 0).trans rfl
         have hfz21_0 := blk_frozen BK113.out 0
         go_wp2_with (first | ((with_reducible refine gate_callee (f := 52) rfl ?_); refine goesL_ (some 35) rfl rfl Tryd.func52 (by kernel_rfl) rfl #[.agg #[.slice A0_0 l0_0.length c0_0], .int .i64 x7_2] rfl (by (try simp only [List.map_toArray, List.map_cons, List.map_nil]); first | done | rfl | (simp only [List.length_drop, List.length_take]; rfl)) ?_; (with_reducible refine (cavilref13_parents.calls k2 _ _ l0_0 x7_2 t115 _ ?side1 ?side2 A17.out).mono ?_); (case side1 => repeat (first | exact (Kd.C_below HR0_0.out HB.out) | (with_reducible refine Kd.C_alloc ?_ _) | (with_reducible refine Kd.C_drewN ?_ _) | (with_reducible refine Kd.C_drew ?_))); (case side2 => exact HC0_0.out); rintro e w22 ⟨rfl, hb⟩; refine ⟨_, rfl, ?_⟩; have n0_ := Aside0.mk (blk_below (g := gb113) (o := .cells #[.slice A0_0 l0_0.length c0_0] 24 (0, 0)) (go_k BK113.out) hb); have n1_ := Aside0.mk (below_step (go_b1 HB.out GE113.out) hb); clear BK113; clear HB; have BK113 := n0_; have HB := n1_; clear n0_ n1_; (try clear hb); (try clear hb2); (try clear hk); (try clear hi)))
         go_ret2
         exact ⟨by first | rfl | (simp [*, errW_none, errW_some, erT_no, erV_no, erT_at, erV_at] <;> rfl), by repeat (first | (with_reducible first | exact HB.out | apply below_alloc | apply pw_below_drewN | apply below_drew1 | refine below_set ?_ GE113.out) | exact HB.out)⟩
       ·rw [if_neg c16] at H
        have c16b0 : decide (x7_2 < (wrap64 ((l0_0.length : Int) - 1))) = false := decide_eq_false c16
        (try (have c16b1 : decide (x7_2 < (IntKind.i64.wrap ((l0_0.length : Int) - 1))) = false := by simp only [i64_w]; exact decide_eq_false c16))
        clear c16
        simp only [Option.some.injEq, Prod.mk.injEq] at H
        obtain ⟨rfl, rfl⟩ := H
        have hcz23_0 : wr.cell? ⟨gb113, 0, none⟩ = some (.slice A0_0 l0_0.length c0_0) := (blk_cell BK113.out 0).trans rfl
        have hfz23_0 := blk_frozen BK113.out 0
        go_wp2
        go_ret2
        exact ⟨by first | rfl | (simp [*, errW_none, errW_some, erT_no, erV_no, erT_at, erV_at] <;> rfl), by repeat (first | (with_reducible first | exact HB.out | apply below_alloc | apply pw_below_drewN | apply below_drew1 | refine below_set ?_ GE113.out) | exact HB.out)⟩

-- NOT PRINTED: function 72 (reflectlite_TypeOf)

-- NOT PRINTED: function 73 (errors_is)

/-! ### errors_Is: function 53 -/
def errors_Is.f (a0 a1 : Option Er) : Option Bool := match a0, a1 with
 | none, some (.no _) => some false
 | some (.no c), some (.no d) => some (decide (c = d))
 | some (.at_ _ (.no c)), some (.no d) => some (decide (c = d))
 | _, _ => none
theorem errors_Is.isTypeOf (v : Value) (w : World) : (Extern.ReflectliteType.typeOf #[.iface 82 v]).run Tryd.prog w = .ok (.iface 127 (.agg #[.pointer (some ⟨4, 82, none⟩)])) w := by kernel_rfl
theorem errors_Is.isComparable (w : World) : (callFunc 128 #[.agg #[.pointer (some ⟨4, 82, none⟩)]]).run Tryd.prog w = .ok (.value (.bool true)) w := by
 rw [@run_callFunc_extern Tryd.prog 128 _ (Extern.ReflectliteType.method fun t => do Extern.Rtype.noPackHeld "Comparable" t; pure (.bool (← typeInfo t).comparable)) Tryd.func128 (by kernel_rfl) (by kernel_rfl) (by kernel_rfl) (by kernel_rfl)]
 have h : ((Extern.ReflectliteType.method fun t => do Extern.Rtype.noPackHeld "Comparable" t; pure (.bool (← typeInfo t).comparable)) #[.agg #[.pointer (some ⟨4, 82, none⟩)]]).run Tryd.prog w = .ok (.bool true) w := by kernel_rfl
 rw [h]; rfl
theorem errors_Is.isTypeOfE (v : Value) (w : World) : (callFunc 72 #[.iface 82 v]).run Tryd.prog w = .ok (.value (.iface 127 (.agg #[.pointer (some ⟨4, 82, none⟩)]))) w := by
 rw [@run_callFunc_extern Tryd.prog 72 _ Extern.ReflectliteType.typeOf Tryd.func72 (by kernel_rfl) (by kernel_rfl) (by kernel_rfl) (by kernel_rfl), errors_Is.isTypeOf]; rfl
theorem errors_Is.isMethodComparable (v : Value) (w : World) : (Go.method 286 127 v "Comparable").run Tryd.prog w = .ok (128, v) w := by kernel_rfl
theorem errors_Is.noIsE (v : Value) (xT : TypeId) (w : World) : (Instr.typeAssert (.iface 82 v) xT 129 true).run Tryd.prog w = .ok (.tuple #[.nilIface, .bool false]) w := Go.run_typeAssert_lacksB Tryd.underlying129 (by kernel_rfl) (by kernel_rfl) v xT w
theorem errors_Is.noUnwrapE (v : Value) (xT : TypeId) (w : World) : (Instr.typeAssert (.iface 82 v) xT 132 true).run Tryd.prog w = .ok (.tuple #[.nilIface, .bool false]) w := Go.run_typeAssert_lacksB Tryd.underlying132 (by kernel_rfl) (by kernel_rfl) v xT w
theorem errors_Is.noUnwrapsE (v : Value) (xT : TypeId) (w : World) : (Instr.typeAssert (.iface 82 v) xT 134 true).run Tryd.prog w = .ok (.tuple #[.nilIface, .bool false]) w := Go.run_typeAssert_lacksB Tryd.underlying134 (by kernel_rfl) (by kernel_rfl) v xT w
theorem errors_Is.noIsA (v : Value) (xT : TypeId) (w : World) : (Instr.typeAssert (.iface 84 v) xT 129 true).run Tryd.prog w = .ok (.tuple #[.nilIface, .bool false]) w := Go.run_typeAssert_lacksB Tryd.underlying129 (by kernel_rfl) (by kernel_rfl) v xT w
theorem errors_Is.hasUnwrapA (v : Value) (xT : TypeId) (w : World) : (Instr.typeAssert (.iface 84 v) xT 132 true).run Tryd.prog w = .ok (.tuple #[.iface 84 v, .bool true]) w := Go.run_typeAssert_hasB Tryd.underlying132 (by kernel_rfl) v xT w
theorem errors_Is.methodUnwrap (v : Value) (w : World) : (Go.method 286 84 v "Unwrap").run Tryd.prog w = .ok (121, v) w := by kernel_rfl

theorem errors_Is.isComp : (Tryd.prog.info? 82).map (·.comparable) = some true := by kernel_rfl
theorem errors_Is.calls_no (c d : Int) (w : World) : Calls Tryd.prog 53 #[.iface 82 (.int .i64 c), .iface 82 (.int .i64 d)] w fun e w' => e = .returned (.bool (decide (c = d))) ∧ w' = w := by
 have tT := errors_Is.isTypeOfE
 have cT := errors_Is.isComparable
 have mR := errors_Is.isMethodComparable
 have nE := errors_Is.noIsE
 have uE := errors_Is.noUnwrapE
 have vE := errors_Is.noUnwrapsE
 have heq : ∀ (c d : Int) W, (binOp .eql 27 (.iface 82 (.int .i64 c)) (.iface 82 (.int .i64 d))).run Tryd.prog W = .ok (.bool (decide (c = d))) W := by
  intro c d W
  rw [Go.Lib.run_eql_iface_int W c d Tryd.underlying27 errors_Is.isComp Tryd.underlying82]; rfl
 by_cases hcd : c = d
 ·have h1 := heq c d
  rw [decide_eq_true hcd] at h1
  rw [decide_eq_true hcd]
  go_enter Tryd.func53, Tryd.ntmps53
  go_wp2
  refine wp_loop_rounds 1 ?_
  rw [rounds_succ]
  go_wp2
  go_ret
  exact ⟨rfl, rfl⟩
 ·have h1 := heq c d
  rw [decide_eq_false hcd] at h1
  rw [decide_eq_false hcd]
  go_enter Tryd.func53, Tryd.ntmps53
  go_wp2
  refine wp_loop_rounds 1 ?_
  rw [rounds_succ]
  go_wp2
  go_ret
  exact ⟨rfl, rfl⟩
theorem errors_Is.unwraps (off : Int) (v : Value) (w : World) : Calls Tryd.prog 121 #[.agg #[.int .i64 off, v]] w fun e w' => e = .returned v ∧ Below w.heap.size w w' := by
 go_enter Tryd.func121, Tryd.ntmps121
 go_wp2
 go_ret
 exact ⟨rfl, (Below.refl _ _).alloc (Nat.le_refl _) _⟩
theorem errors_Is.calls_nil (d : Int) (w : World) : Calls Tryd.prog 53 #[.nilIface, .iface 82 (.int .i64 d)] w fun e w' => e = .returned (.bool false) ∧ w' = w := by
 have hn := fun W => run_eql_iface_nil_left (P := Tryd.prog) W 82 (.int .i64 d) Tryd.underlying27
 go_enter Tryd.func53, Tryd.ntmps53
 go_wp2
 go_ret
 exact ⟨rfl, rfl⟩
theorem errors_Is.calls_at (o c d : Int) (w : World) : Calls Tryd.prog 53 #[.iface 84 (.agg #[.int .i64 o, .iface 82 (.int .i64 c)]), .iface 82 (.int .i64 d)] w fun e w' => e = .returned (.bool (decide (c = d))) ∧ Below w.heap.size w w' := by
 have tT := errors_Is.isTypeOfE
 have cT := errors_Is.isComparable
 have mR := errors_Is.isMethodComparable
 have nE := errors_Is.noIsE
 have uE := errors_Is.noUnwrapE
 have vE := errors_Is.noUnwrapsE
 have heq : ∀ (c d : Int) W, (binOp .eql 27 (.iface 82 (.int .i64 c)) (.iface 82 (.int .i64 d))).run Tryd.prog W = .ok (.bool (decide (c = d))) W := by
  intro c d W
  rw [Go.Lib.run_eql_iface_int W c d Tryd.underlying27 errors_Is.isComp Tryd.underlying82]; rfl
 have nA := errors_Is.noIsA
 have hA := errors_Is.hasUnwrapA
 have mU := errors_Is.methodUnwrap
 have hty := fun v W => run_eql_iface_types (P := Tryd.prog) 84 82 v (.int .i64 d) Tryd.underlying27 (by decide) W
 by_cases hcd : c = d
 ·have h1 := heq c d
  rw [decide_eq_true hcd] at h1
  rw [decide_eq_true hcd]
  go_enter Tryd.func53, Tryd.ntmps53
  go_wp2
  refine wp_loop_rounds 2 ?_
  rw [rounds_succ]
  go_wp2_with (first | (go_at_call 121; refine (errors_Is.unwraps _ _ _).mono ?_; rintro _ w1 ⟨rfl, hb⟩))
  rw [rounds_succ]
  go_wp2
  go_ret
  exact ⟨rfl, hb⟩
 ·have h1 := heq c d
  rw [decide_eq_false hcd] at h1
  rw [decide_eq_false hcd]
  go_enter Tryd.func53, Tryd.ntmps53
  go_wp2
  refine wp_loop_rounds 2 ?_
  rw [rounds_succ]
  go_wp2_with (first | (go_at_call 121; refine (errors_Is.unwraps _ _ _).mono ?_; rintro _ w1 ⟨rfl, hb⟩))
  rw [rounds_succ]
  go_wp2
  go_ret
  exact ⟨rfl, hb⟩
theorem errors_Is.calls (a0 a1 : Option Er) (r : Bool) (w : World) (h : errors_Is.f a0 a1 = some r) :
  Calls Tryd.prog 53 #[errW a0, errW a1] w fun e w' => e = .returned (.bool r) ∧ Below w.heap.size w w' := by
 unfold errors_Is.f at h
 split at h
 ·cases h
  exact (errors_Is.calls_nil _ w).mono (by rintro e w' ⟨rfl, rfl⟩; exact ⟨rfl, Below.refl _ _⟩)
 ·cases h
  exact (errors_Is.calls_no _ _ w).mono (by rintro e w' ⟨rfl, rfl⟩; exact ⟨rfl, Below.refl _ _⟩)
 ·cases h
  exact errors_Is.calls_at _ _ _ w
 ·cases h

/-! ### cavillaw01_Code: function 13 -/
def cavillaw01_Code.l0 : Nat → Option Er → Int → Option (Int)
 | 0, _, _ => none
 | k + 1, x0, x3 => if x3 ≤ 25 then ((errors_Is.f x0 (some (Er.no x3))).bind fun t117 => (if t117 = true then (some x3) else (cavillaw01_Code.l0 k x0 (wrap64 (x3 + 1))))) else (some (-1))
def cavillaw01_Code.f (k : Nat) (a0 : Option Er) : Option (Int) := if a0.isNone = true then (some 0) else (cavillaw01_Code.l0 k (some (a0.getD (Er.no 0))) 1)
theorem cavillaw01_Code.mono_l : ∀ k, (∀ y0 y1, LeO (cavillaw01_Code.l0 k y0 y1) (cavillaw01_Code.l0 (k + 1) y0 y1))
 | 0 => fun _ _ r h => by simp [cavillaw01_Code.l0] at h
 | k + 1 => by
  have ih0 := cavillaw01_Code.mono_l k
  ·intro y0 y1
   unfold cavillaw01_Code.l0
   repeat' first
   | (with_reducible exact ih0 _ _)
   | (with_reducible exact LeO.refl _)
   | (with_reducible exact LeO.none _)
   | (with_reducible refine LeO.ite ?_ ?_)
   | (with_reducible refine LeO.bind ?_ (fun _ => ?_))
   | exact ih0 _ _
   | exact LeO.none _
   | refine LeO.ite ?_ ?_
   | refine LeO.bind ?_ (fun _ => ?_)
theorem cavillaw01_Code.mono : ∀ a0 k, LeO (cavillaw01_Code.f k a0) (cavillaw01_Code.f (k + 1) a0) := by
 intro a0 k
 have ih0 := cavillaw01_Code.mono_l k
 unfold cavillaw01_Code.f
 repeat' first
   | (with_reducible exact ih0 _ _)
   | (with_reducible exact LeO.refl _)
   | (with_reducible exact LeO.none _)
   | (with_reducible refine LeO.ite ?_ ?_)
   | (with_reducible refine LeO.bind ?_ (fun _ => ?_))
   | exact ih0 _ _
   | exact LeO.none _
   | refine LeO.ite ?_ ?_
   | refine LeO.bind ?_ (fun _ => ?_)
set_option maxHeartbeats 8000000 in
set_option maxRecDepth 100000 in
theorem cavillaw01_Code.calls (k : Nat) (a0 : Option Er) (r : Int) (w : World) (h : cavillaw01_Code.f k a0 = some r) :
  Calls Tryd.prog 13 #[errW a0] w fun e w' => e = .returned (.int .i64 r) ∧ Below w.heap.size w w' := by
 have hu27 := Tryd.underlying27
 have hu82 := Tryd.underlying82
 have HB := Aside0.mk (Below.refl w.heap.size w)
 have H : (if a0.isNone = true then (some 0) else (cavillaw01_Code.l0 k (some (a0.getD (Er.no 0))) 1)) = some r := h
 clear h
 rcases a0 with _ | q116
 ·have H1 : (some 0) = some r := by rw [if_pos (show (none : Option Er).isNone = true by rfl)] at H; exact H
  clear H
  have H := H1
  clear H1
  simp only [errW_none, errW_some, erT_no, erV_no, erT_at, erV_at]
  obtain rfl := Option.some.inj H
  go_enter Tryd.func13, Tryd.ntmps13
  go_wp2
  go_ret
  exact ⟨by first | rfl | (simp [*, errW_none, errW_some, erT_no, erV_no, erT_at, erV_at] <;> rfl), by repeat (first | (with_reducible first | exact HB.out | apply below_alloc | apply pw_below_drewN | apply below_drew1) | exact HB.out)⟩
 ·have H1 : (cavillaw01_Code.l0 k (some q116) 1) = some r := by rw [if_neg (show ¬ (some q116).isNone = true by simp)] at H; exact H
  clear H
  have H := H1
  clear H1
  simp only [errW_none, errW_some, erT_no, erV_no, erT_at, erV_at]
  have H' := Aside0.mk H
  clear H
  go_enter Tryd.func13, Tryd.ntmps13
  go_wp2
  go_loopg [3] k (fun kq v3 w' => ∃ (x3_1 : Int), v3 = .int .i64 x3_1 ∧ Aside0 (cavillaw01_Code.l0 kq (some q116) x3_1 = some r) ∧ Aside0 (kq ≤ k) ∧ Aside0 (Below w.heap.size w w'))
  case atStart => exact ⟨(1), (by first | rfl | (simp; done) | (simp [*]; done)), H', ⟨Nat.le_refl _⟩, ⟨by repeat (first | (with_reducible first | exact HB.out | apply below_alloc | apply pw_below_drewN | apply below_drew1) | exact HB.out)⟩⟩
  case round =>
   clear H'
   try clear c1
   try clear q1
   try clear q116
   obtain ⟨x3_1, rfl, HA, HK1, HB⟩ := hrel
   cases gk with
   | zero => exact absurd HA.out (by simp [cavillaw01_Code.l0])
   | succ k1 =>
    have H := HA.out
    clear HA
    simp only [cavillaw01_Code.l0] at H
    by_cases c2 : x3_1 ≤ 25
    ·rw [if_pos c2] at H
     have c2b0 : decide (x3_1 ≤ 25) = true := decide_eq_true c2
     clear c2
     replace H := Option.bind_eq_some_iff.mp H
     obtain ⟨t117, A30, H⟩ := H
     replace H : (if t117 = true then (some x3_1) else (cavillaw01_Code.l0 k1 (some q116) (wrap64 (x3_1 + 1)))) = some r := H
     have A3 := Aside0.mk A30
     clear A30
     by_cases c4 : t117 = true
     ·subst c4
      have H1 : (some x3_1) = some r := by rw [if_pos rfl] at H; exact H
      clear H
      have H := H1
      clear H1
      obtain rfl := Option.some.inj H
      have CA3 := fun W => errors_Is.calls (some q116) (some (Er.no x3_1)) true W A3.out
      try simp only [errW_none, errW_some, erT_no, erV_no, erT_at, erV_at] at CA3
      go_wp2_with (first | (go_at_call 53; (with_reducible refine (CA3 _).mono ?_); rintro e w5 ⟨rfl, hb⟩; have n0_ := Aside0.mk (below_step (go_b HB.out) hb); clear HB; have HB := n0_; clear n0_; (try clear hb); (try clear hb2); (try clear hk); (try clear hi)))
      go_ret
      exact ⟨by first | rfl | (simp [*, errW_none, errW_some, erT_no, erV_no, erT_at, erV_at] <;> rfl), by repeat (first | (with_reducible first | exact HB.out | apply below_alloc | apply pw_below_drewN | apply below_drew1) | exact HB.out)⟩
     ·replace c4 := Bool.eq_false_iff.mpr c4
      subst c4
      have H1 : (cavillaw01_Code.l0 k1 (some q116) (wrap64 (x3_1 + 1))) = some r := by rw [if_neg (show ¬ (false = true) by decide)] at H; exact H
      clear H
      have H := H1
      clear H1
      have H' := Aside0.mk H
      clear H
      have CA3 := fun W => errors_Is.calls (some q116) (some (Er.no x3_1)) false W A3.out
      try simp only [errW_none, errW_some, erT_no, erV_no, erT_at, erV_at] at CA3
      go_wp2_with (first | (go_at_call 53; (with_reducible refine (CA3 _).mono ?_); rintro e w6 ⟨rfl, hb⟩; have n0_ := Aside0.mk (below_step (go_b HB.out) hb); clear HB; have HB := n0_; clear n0_; (try clear hb); (try clear hb2); (try clear hk); (try clear hi)))
      go_roundg k1
      case measure => have := HK1.out; omega
      case rel => exact ⟨(wrap64 (x3_1 + 1)), (by first | rfl | (simp; done) | (simp [*]; done)), H', ⟨by have := HK1.out; omega⟩, ⟨by repeat (first | (with_reducible first | exact HB.out | apply below_alloc | apply pw_below_drewN | apply below_drew1) | exact HB.out)⟩⟩
    ·rw [if_neg c2] at H
     have c2b0 : decide (x3_1 ≤ 25) = false := decide_eq_false c2
     clear c2
     obtain rfl := Option.some.inj H
     go_wp2
     go_ret
     exact ⟨by first | rfl | (simp [*, errW_none, errW_some, erT_no, erV_no, erT_at, erV_at] <;> rfl), by repeat (first | (with_reducible first | exact HB.out | apply below_alloc | apply pw_below_drewN | apply below_drew1) | exact HB.out)⟩

-- NOT PRINTED: function 74 (reflectlite_ValueOf)

-- NOT PRINTED: function 75 (reflectlite_Value_Type)

-- NOT PRINTED: function 76 (reflectlite_Value_IsNil)

-- NOT PRINTED: function 84 (reflectlite_Value_Elem)

-- NOT PRINTED: function 85 (reflectlite_Value_Set)

-- NOT PRINTED: function 77 (errors_as)

-- NOT PRINTED: function 54 (errors_As)

end Go.Proofs.YtnpgadfoohjlnaaDoor.QV
