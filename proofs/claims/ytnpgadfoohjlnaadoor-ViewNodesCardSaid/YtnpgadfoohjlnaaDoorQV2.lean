/- Where a Lean function of this text answers, the Go function of its name comes to that answer: no other condition. Written by a program of this session out of the translation; Lean checks it. -/
import Derived.Test.YtnpgadfoohjlnaaDoorQV0
namespace Go.Proofs.YtnpgadfoohjlnaaDoor.QV
open Go.RowKit Go.Proofs.YtnpgadfoohjlnaaDoorW.PrintWords Go.Proofs.YtnpgadfoohjlnaaDoorW.PrintLast Go.Proofs.YtnpgadfoohjlnaaDoorW.PrintMore Go.Proofs.YtnpgadfoohjlnaaDoorW.PrintX
attribute [local go_sem] max2_int min2_int max_two min_two max_three min_three max_four min_four   -- for this text's walks alone
set_option linter.unusedVariables false
set_option linter.unusedSimpArgs false

/-! ### cavilref13_one: function 51 -/
mutual
def cavilref13_one.j0 : Nat → Int → Bool → List (S33) → Int → Int → Int → List Int → Option (Bool)
 | 0, _, _, _, _, _, _, _ => none
 | k + 1, x1, x42, x102000, x104000, x104001, x104002, x104003 => if x42 = true then (some false) else (cavilref13_one.l0 k x1 0 x102000 x104000 x104001 x104002 x104003)
def cavilref13_one.l0 : Nat → Int → Int → List (S33) → Int → Int → Int → List Int → Option (Bool)
 | 0, _, _, _, _, _, _, _ => none
 | k + 1, x1, x8, x102000, x104000, x104001, x104002, x104003 => if x8 < (x104003.length : Int) then (if 0 ≤ x8 then (if (rd x104003 x8) < 0 then (some false) else (if (rd x104003 x8) ≥ x1 then (some false) else (cavilref13_one.l0 k x1 (wrap64 (x8 + 1)) x102000 x104000 x104001 x104002 x104003))) else (none)) else (cavilref13_one.l1 k x104001 0 x102000 x104000 x104001 x104002 x104003)
def cavilref13_one.l1 : Nat → Int → Int → List (S33) → Int → Int → Int → List Int → Option (Bool)
 | 0, _, _, _, _, _, _, _ => none
 | k + 1, x9, x10, x102000, x104000, x104001, x104002, x104003 => if x10 < (x104003.length : Int) then (if 0 ≤ x10 then (if 0 ≤ (rd x104003 x10) then (if (rd x104003 x10) < (x102000.length : Int) then (if ((rd_T33 x102000 (rd x104003 x10)).f1) < x9 then (some false) else (cavilref13_one.l1 k ((rd_T33 x102000 (rd x104003 x10)).f2) (wrap64 (x10 + 1)) x102000 x104000 x104001 x104002 x104003)) else (none)) else (none)) else (none)) else (some (decide (x9 ≤ x104002)))
end
def cavilref13_one.f (k : Nat) (l0_0 : List (S33)) (a1 : Int) (a2 : Int) : Option (Bool) := if 0 ≤ a1 then (if a1 < (l0_0.length : Int) then (if ((rd_T33 l0_0 a1).f0) < 0 then (cavilref13_one.j0 k a1 true l0_0 ((rd_T33 l0_0 a1).f0) ((rd_T33 l0_0 a1).f1) ((rd_T33 l0_0 a1).f2) ((rd_T33 l0_0 a1).f3)) else (if ((rd_T33 l0_0 a1).f0) > 66 then (cavilref13_one.j0 k a1 true l0_0 ((rd_T33 l0_0 a1).f0) ((rd_T33 l0_0 a1).f1) ((rd_T33 l0_0 a1).f2) ((rd_T33 l0_0 a1).f3)) else (if ((rd_T33 l0_0 a1).f1) < 0 then (cavilref13_one.j0 k a1 true l0_0 ((rd_T33 l0_0 a1).f0) ((rd_T33 l0_0 a1).f1) ((rd_T33 l0_0 a1).f2) ((rd_T33 l0_0 a1).f3)) else (if ((rd_T33 l0_0 a1).f1) > ((rd_T33 l0_0 a1).f2) then (cavilref13_one.j0 k a1 true l0_0 ((rd_T33 l0_0 a1).f0) ((rd_T33 l0_0 a1).f1) ((rd_T33 l0_0 a1).f2) ((rd_T33 l0_0 a1).f3)) else (cavilref13_one.j0 k a1 (decide (((rd_T33 l0_0 a1).f2) > a2)) l0_0 ((rd_T33 l0_0 a1).f0) ((rd_T33 l0_0 a1).f1) ((rd_T33 l0_0 a1).f2) ((rd_T33 l0_0 a1).f3)))))) else (none)) else (none)
theorem cavilref13_one.mono_l : ∀ k, (∀ y0 y1 y2 y3 y4 y5 y6, LeO (cavilref13_one.j0 k y0 y1 y2 y3 y4 y5 y6) (cavilref13_one.j0 (k + 1) y0 y1 y2 y3 y4 y5 y6)) ∧ (∀ y0 y1 y2 y3 y4 y5 y6, LeO (cavilref13_one.l0 k y0 y1 y2 y3 y4 y5 y6) (cavilref13_one.l0 (k + 1) y0 y1 y2 y3 y4 y5 y6)) ∧ (∀ y0 y1 y2 y3 y4 y5 y6, LeO (cavilref13_one.l1 k y0 y1 y2 y3 y4 y5 y6) (cavilref13_one.l1 (k + 1) y0 y1 y2 y3 y4 y5 y6))
 | 0 => ⟨fun _ _ _ _ _ _ _ r h => by simp [cavilref13_one.j0] at h, fun _ _ _ _ _ _ _ r h => by simp [cavilref13_one.l0] at h, fun _ _ _ _ _ _ _ r h => by simp [cavilref13_one.l1] at h⟩
 | k + 1 => by
  obtain ⟨ih0, ih1, ih2⟩ := cavilref13_one.mono_l k
  refine ⟨?_, ?_, ?_⟩
  ·intro y0 y1 y2 y3 y4 y5 y6
   unfold cavilref13_one.j0
   repeat' first
   | (with_reducible exact ih0 _ _ _ _ _ _ _)
   | (with_reducible exact ih1 _ _ _ _ _ _ _)
   | (with_reducible exact ih2 _ _ _ _ _ _ _)
   | (with_reducible exact LeO.refl _)
   | (with_reducible exact LeO.none _)
   | (with_reducible refine LeO.ite ?_ ?_)
   | (with_reducible refine LeO.bind ?_ (fun _ => ?_))
   | exact ih0 _ _ _ _ _ _ _
   | exact ih1 _ _ _ _ _ _ _
   | exact ih2 _ _ _ _ _ _ _
   | exact LeO.none _
   | refine LeO.ite ?_ ?_
   | refine LeO.bind ?_ (fun _ => ?_)
  ·intro y0 y1 y2 y3 y4 y5 y6
   unfold cavilref13_one.l0
   repeat' first
   | (with_reducible exact ih0 _ _ _ _ _ _ _)
   | (with_reducible exact ih1 _ _ _ _ _ _ _)
   | (with_reducible exact ih2 _ _ _ _ _ _ _)
   | (with_reducible exact LeO.refl _)
   | (with_reducible exact LeO.none _)
   | (with_reducible refine LeO.ite ?_ ?_)
   | (with_reducible refine LeO.bind ?_ (fun _ => ?_))
   | exact ih0 _ _ _ _ _ _ _
   | exact ih1 _ _ _ _ _ _ _
   | exact ih2 _ _ _ _ _ _ _
   | exact LeO.none _
   | refine LeO.ite ?_ ?_
   | refine LeO.bind ?_ (fun _ => ?_)
  ·intro y0 y1 y2 y3 y4 y5 y6
   unfold cavilref13_one.l1
   repeat' first
   | (with_reducible exact ih0 _ _ _ _ _ _ _)
   | (with_reducible exact ih1 _ _ _ _ _ _ _)
   | (with_reducible exact ih2 _ _ _ _ _ _ _)
   | (with_reducible exact LeO.refl _)
   | (with_reducible exact LeO.none _)
   | (with_reducible refine LeO.ite ?_ ?_)
   | (with_reducible refine LeO.bind ?_ (fun _ => ?_))
   | exact ih0 _ _ _ _ _ _ _
   | exact ih1 _ _ _ _ _ _ _
   | exact ih2 _ _ _ _ _ _ _
   | exact LeO.none _
   | refine LeO.ite ?_ ?_
   | refine LeO.bind ?_ (fun _ => ?_)
theorem cavilref13_one.mono : ∀ a0 a1 a2 k, LeO (cavilref13_one.f k a0 a1 a2) (cavilref13_one.f (k + 1) a0 a1 a2) := by
 intro a0 a1 a2 k
 obtain ⟨ih0, ih1, ih2⟩ := cavilref13_one.mono_l k
 unfold cavilref13_one.f
 repeat' first
   | (with_reducible exact ih0 _ _ _ _ _ _ _)
   | (with_reducible exact ih1 _ _ _ _ _ _ _)
   | (with_reducible exact ih2 _ _ _ _ _ _ _)
   | (with_reducible exact LeO.refl _)
   | (with_reducible exact LeO.none _)
   | (with_reducible refine LeO.ite ?_ ?_)
   | (with_reducible refine LeO.bind ?_ (fun _ => ?_))
   | exact ih0 _ _ _ _ _ _ _
   | exact ih1 _ _ _ _ _ _ _
   | exact ih2 _ _ _ _ _ _ _
   | exact LeO.none _
   | refine LeO.ite ?_ ?_
   | refine LeO.bind ?_ (fun _ => ?_)
def cavilref13_one.T13 : Bool × List (List Nat × List Nat) := (true, [([], []), ([0], [0]), ([], []), ([2], [2]), ([], []), ([3, 4], [3, 4]), ([5], [5]), ([1, 6], [1, 6]), ([7], [7]), ([], []), ([9, 8, 0, 1, 2, 3, 4, 5, 6, 7, 8, 9], [8, 9])])
def cavilref13_one.B13 : List Nat := [0, 1, 0, 4, 0, 28, 60, 127, 255, 0, 1023]
theorem cavilref13_one.tab13 : rtab .any (opsOf Tryd.f51 13) = cavilref13_one.T13 := by kernel_rfl
theorem cavilref13_one.bits13 : waitsOk cavilref13_one.T13.2 cavilref13_one.B13 = true := by kernel_rfl
set_option maxHeartbeats 8000000 in
set_option maxRecDepth 100000 in
theorem cavilref13_one.calls (k : Nat) (A0_0 : Option Addr) (c0_0 : Nat) (l0_0 : List (S33)) (a1 : Int) (a2 : Int) (r : Bool) (w : World) (hr0_0 : Kd.C k33 w A0_0 l0_0.length l0_0) (hc0_0 : l0_0.length ≤ c0_0) (h : cavilref13_one.f k l0_0 a1 a2 = some r) :
  Calls Tryd.prog 51 #[.agg #[.slice A0_0 l0_0.length c0_0], .int .i64 a1, .int .i64 a2] w fun e w' => e = .returned (.bool r) ∧ Below w.heap.size w w' := by
 have hu24 := Tryd.underlying24
 have hu33 := Tryd.underlying33
 have HR0_0 := Aside0.mk hr0_0
 have HC0_0 := Aside0.mk hc0_0
 clear hr0_0 hc0_0
 have HB := Aside0.mk (Below.refl w.heap.size w)
 have H : (if 0 ≤ a1 then (if a1 < (l0_0.length : Int) then (if ((rd_T33 l0_0 a1).f0) < 0 then (cavilref13_one.j0 k a1 true l0_0 ((rd_T33 l0_0 a1).f0) ((rd_T33 l0_0 a1).f1) ((rd_T33 l0_0 a1).f2) ((rd_T33 l0_0 a1).f3)) else (if ((rd_T33 l0_0 a1).f0) > 66 then (cavilref13_one.j0 k a1 true l0_0 ((rd_T33 l0_0 a1).f0) ((rd_T33 l0_0 a1).f1) ((rd_T33 l0_0 a1).f2) ((rd_T33 l0_0 a1).f3)) else (if ((rd_T33 l0_0 a1).f1) < 0 then (cavilref13_one.j0 k a1 true l0_0 ((rd_T33 l0_0 a1).f0) ((rd_T33 l0_0 a1).f1) ((rd_T33 l0_0 a1).f2) ((rd_T33 l0_0 a1).f3)) else (if ((rd_T33 l0_0 a1).f1) > ((rd_T33 l0_0 a1).f2) then (cavilref13_one.j0 k a1 true l0_0 ((rd_T33 l0_0 a1).f0) ((rd_T33 l0_0 a1).f1) ((rd_T33 l0_0 a1).f2) ((rd_T33 l0_0 a1).f3)) else (cavilref13_one.j0 k a1 (decide (((rd_T33 l0_0 a1).f2) > a2)) l0_0 ((rd_T33 l0_0 a1).f0) ((rd_T33 l0_0 a1).f1) ((rd_T33 l0_0 a1).f2) ((rd_T33 l0_0 a1).f3)))))) else (none)) else (none)) = some r := h
 clear h
 by_cases c4 : 0 ≤ a1
 ·rw [if_pos c4] at H
  have c4b0 : decide (0 ≤ a1) = true := decide_eq_true c4
  clear c4
  by_cases c5 : a1 < (l0_0.length : Int)
  ·rw [if_pos c5] at H
   have c5b0 : decide (a1 < (l0_0.length : Int)) = true := decide_eq_true c5
   clear c5
   have HC6 := Aside0.mk H
   clear H
   go_enter Tryd.func51, Tryd.ntmps51
   go_upto_region 2 with (first | ((with_reducible refine gate_dst (N := 3) rfl ?_); refine box_event ?hg (N := 3) ?hd (cs := #[.slice A0_0 l0_0.length c0_0]) (t := 24) ?hr ?_; (case hd => rfl); (case hg => rfl); (case hr => first | (go_simp; done) | (go_simp; rfl)); intro gb101 hg w7 hbox hb; have n0_ := Aside0.mk (below_step (go_b HB.out) hb); have n1_ := Aside0.mk (hbox); have n2_ := Aside0.mk ((by rw [hg]; exact (below_size (go_b HB.out)) : w.heap.size ≤ gb101)); have n3_ := n2_; clear HB; have HB := n0_; have BK101 := n1_; have GW101 := n2_; have GE101 := n3_; clear n0_ n1_ n2_ n3_; clear hb hbox hg; have hcz8_0 : w7.cell? ⟨gb101, 0, none⟩ = some (.slice A0_0 l0_0.length c0_0) := (blk_cell BK101.out 0).trans rfl; have hfz8_0 := blk_frozen BK101.out 0; have p102 : 0 ≤ (a1 : Int) := of_dec; have q102 : a1 < (l0_0.length : Int) := of_dec; obtain ⟨ad102, A102_3, c102_3, e102, hx102_0, hx102_1, hx102_2, hx102_3, hl102_3, hi102_3⟩ := at_T33 HR0_0.out a1 p102 q102; cases e102; replace hx102_0 := cell_b HB.out hx102_0; replace hx102_1 := cell_b HB.out hx102_1; replace hx102_2 := cell_b HB.out hx102_2; replace hx102_3 := cell_b HB.out hx102_3; have HR102_3 := Aside0.mk hi102_3; have HC102_3 := Aside0.mk hl102_3; clear hi102_3 hl102_3; replace p102 := eq_true p102; replace q102 := eq_true q102) | ((with_reducible refine gate_dst (N := 7) rfl ?_); refine box_event ?hg (N := 7) ?hd (cs := #[.int .i64 0, .int .i64 0, .int .i64 0, .slice none 0 0]) (t := 33) ?hr ?_; (case hd => rfl); (case hg => rfl); (case hr => first | (go_simp; done) | (go_simp; rfl)); intro gb103 hg w9 hbox hb; have n0_ := Aside0.mk (blk_below (g := gb101) (o := .cells #[.slice (some ad102) l0_0.length c0_0] 24 (0, 0)) (go_k BK101.out) hb); have n1_ := Aside0.mk (below_step (go_b1 HB.out GE101.out) hb); have n2_ := Aside0.mk (hbox); have n3_ := Aside0.mk ((by rw [hg]; exact (below_size (go_b1 HB.out GE101.out)) : w.heap.size ≤ gb103)); have n4_ := n3_; have n5_ := Aside0.mk ((by rw [hg]; exact Nat.ne_of_lt (blk_lt (g := gb101) (o := .cells #[.slice (some ad102) l0_0.length c0_0] 24 (0, 0)) (go_k BK101.out)) : gb101 ≠ gb103)); have n6_ := Aside0.mk ((by rw [hg]; exact Nat.ne_of_gt (blk_lt (g := gb101) (o := .cells #[.slice (some ad102) l0_0.length c0_0] 24 (0, 0)) (go_k BK101.out)) : gb103 ≠ gb101)); clear BK101; clear HB; have BK101 := n0_; have HB := n1_; have BK103 := n2_; have GW103 := n3_; have GE103 := n4_; have NB101_103 := n5_; have NB103_101 := n6_; clear n0_ n1_ n2_ n3_ n4_ n5_ n6_; clear hb hbox hg; have hnb10 := NB103_101.out; have hnc10 := NB101_103.out; have hcz11_0 : w9.cell? ⟨gb103, 0, none⟩ = some (.int .i64 0) := (blk_cell BK103.out 0).trans rfl; have hcz11_1 : w9.cell? ⟨gb103, 1, none⟩ = some (.int .i64 0) := (blk_cell BK103.out 1).trans rfl; have hcz11_2 : w9.cell? ⟨gb103, 2, none⟩ = some (.int .i64 0) := (blk_cell BK103.out 2).trans rfl; have hcz11_3 : w9.cell? ⟨gb103, 3, none⟩ = some (.slice none 0 0) := (blk_cell BK103.out 3).trans rfl; have hfz11_0 := blk_frozen BK103.out 0; have hfz11_1 := blk_frozen BK103.out 1; have hfz11_2 := blk_frozen BK103.out 2; have hfz11_3 := blk_frozen BK103.out 3))
   (try simp only [Act.put, List.setIfInBounds_toArray, List.set_cons_zero, List.set_cons_succ])
   go_cut [42] (fun v42 wc => ∃ (kq : Nat) (x42_5 : Bool), v42 = .bool x42_5 ∧ Aside0 (cavilref13_one.j0 kq a1 x42_5 l0_0 ((rd_T33 l0_0 a1).f0) ((rd_T33 l0_0 a1).f1) ((rd_T33 l0_0 a1).f2) ((rd_T33 l0_0 a1).f3) = some r) ∧ Aside0 (kq ≤ k) ∧ Aside0 (wc.heap[gb101]? = some (.cells #[(.slice (some ad102) l0_0.length c0_0)] 24 (0, 0))) ∧ Aside0 (wc.heap[gb103]? = some (.cells #[.int .i64 ((rd_T33 l0_0 a1).f0), .int .i64 ((rd_T33 l0_0 a1).f1), .int .i64 ((rd_T33 l0_0 a1).f2), (.slice A102_3 ((rd_T33 l0_0 a1).f3).length c102_3)] 33 (0, 0))) ∧ Aside0 (Below w.heap.size w wc))
   case first =>
    have H := HC6.out
    clear HC6
    by_cases c12 : ((rd_T33 l0_0 a1).f0) < 0
    ·rw [if_pos c12] at H
     have c12b0 : decide (((rd_T33 l0_0 a1).f0) < 0) = true := decide_eq_true c12
     clear c12
     (first | rw [c12b0] | (simp only [i64_w, i32_w]; rw [c12b0]) | skip)
     have H' := Aside0.mk H
     clear H
     have hnb13 := NB103_101.out
     have hnc13 := NB101_103.out
     have hcz14_0 : w9.cell? ⟨gb103, 0, none⟩ = some (.int .i64 0) := (blk_cell BK103.out 0).trans rfl
     have hcz14_1 : w9.cell? ⟨gb103, 1, none⟩ = some (.int .i64 0) := (blk_cell BK103.out 1).trans rfl
     have hcz14_2 : w9.cell? ⟨gb103, 2, none⟩ = some (.int .i64 0) := (blk_cell BK103.out 2).trans rfl
     have hcz14_3 : w9.cell? ⟨gb103, 3, none⟩ = some (.slice none 0 0) := (blk_cell BK103.out 3).trans rfl
     have hfz14_0 := blk_frozen BK103.out 0
     have hfz14_1 := blk_frozen BK103.out 1
     have hfz14_2 := blk_frozen BK103.out 2
     have hfz14_3 := blk_frozen BK103.out 3
     go_wp2
     go_meet
     case rel => exact ⟨_, (true), (by first | rfl | (simp; done) | (simp [*]; done)), H', ⟨by first | omega | exact Nat.le_refl _⟩, ⟨by (with_reducible repeat (first | refine blk_drewN ?_ _ | refine blk_drew ?_ | refine blk_alloc ?_ _)); refine blk_far ?_ NB101_103.out _; refine blk_far ?_ NB101_103.out _; refine blk_far ?_ NB101_103.out _; refine blk_far ?_ NB101_103.out _; (with_reducible repeat (first | refine blk_drewN ?_ _ | refine blk_drew ?_ | refine blk_alloc ?_ _)); exact BK101.out⟩, ⟨by (with_reducible repeat (first | refine blk_drewN ?_ _ | refine blk_drew ?_ | refine blk_alloc ?_ _)); refine blk_put (cs := #[.int .i64 ((rd_T33 l0_0 a1).f0), .int .i64 ((rd_T33 l0_0 a1).f1), .int .i64 ((rd_T33 l0_0 a1).f2), .slice none 0 0]) ?_ 3 _ rfl; refine blk_put (cs := #[.int .i64 ((rd_T33 l0_0 a1).f0), .int .i64 ((rd_T33 l0_0 a1).f1), .int .i64 0, .slice none 0 0]) ?_ 2 _ rfl; refine blk_put (cs := #[.int .i64 ((rd_T33 l0_0 a1).f0), .int .i64 0, .int .i64 0, .slice none 0 0]) ?_ 1 _ rfl; refine blk_put (cs := #[.int .i64 0, .int .i64 0, .int .i64 0, .slice none 0 0]) ?_ 0 _ rfl; (with_reducible repeat (first | refine blk_drewN ?_ _ | refine blk_drew ?_ | refine blk_alloc ?_ _)); exact BK103.out⟩, ⟨by repeat (first | (with_reducible first | exact HB.out | apply below_alloc | apply pw_below_drewN | apply below_drew1 | refine below_set ?_ GE101.out | refine below_set ?_ GE103.out) | exact HB.out)⟩⟩
    ·rw [if_neg c12] at H
     have c12b0 : decide (((rd_T33 l0_0 a1).f0) < 0) = false := decide_eq_false c12
     clear c12
     (first | rw [c12b0] | (simp only [i64_w, i32_w]; rw [c12b0]) | skip)
     by_cases c15 : ((rd_T33 l0_0 a1).f0) > 66
     ·rw [if_pos c15] at H
      have c15b0 : decide (66 < ((rd_T33 l0_0 a1).f0)) = true := decide_eq_true c15
      clear c15
      have H' := Aside0.mk H
      clear H
      have hnb16 := NB103_101.out
      have hnc16 := NB101_103.out
      have hcz17_0 : w9.cell? ⟨gb103, 0, none⟩ = some (.int .i64 0) := (blk_cell BK103.out 0).trans rfl
      have hcz17_1 : w9.cell? ⟨gb103, 1, none⟩ = some (.int .i64 0) := (blk_cell BK103.out 1).trans rfl
      have hcz17_2 : w9.cell? ⟨gb103, 2, none⟩ = some (.int .i64 0) := (blk_cell BK103.out 2).trans rfl
      have hcz17_3 : w9.cell? ⟨gb103, 3, none⟩ = some (.slice none 0 0) := (blk_cell BK103.out 3).trans rfl
      have hfz17_0 := blk_frozen BK103.out 0
      have hfz17_1 := blk_frozen BK103.out 1
      have hfz17_2 := blk_frozen BK103.out 2
      have hfz17_3 := blk_frozen BK103.out 3
      go_wp2
      go_meet
      case rel => exact ⟨_, (true), (by first | rfl | (simp; done) | (simp [*]; done)), H', ⟨by first | omega | exact Nat.le_refl _⟩, ⟨by (with_reducible repeat (first | refine blk_drewN ?_ _ | refine blk_drew ?_ | refine blk_alloc ?_ _)); refine blk_far ?_ NB101_103.out _; refine blk_far ?_ NB101_103.out _; refine blk_far ?_ NB101_103.out _; refine blk_far ?_ NB101_103.out _; (with_reducible repeat (first | refine blk_drewN ?_ _ | refine blk_drew ?_ | refine blk_alloc ?_ _)); exact BK101.out⟩, ⟨by (with_reducible repeat (first | refine blk_drewN ?_ _ | refine blk_drew ?_ | refine blk_alloc ?_ _)); refine blk_put (cs := #[.int .i64 ((rd_T33 l0_0 a1).f0), .int .i64 ((rd_T33 l0_0 a1).f1), .int .i64 ((rd_T33 l0_0 a1).f2), .slice none 0 0]) ?_ 3 _ rfl; refine blk_put (cs := #[.int .i64 ((rd_T33 l0_0 a1).f0), .int .i64 ((rd_T33 l0_0 a1).f1), .int .i64 0, .slice none 0 0]) ?_ 2 _ rfl; refine blk_put (cs := #[.int .i64 ((rd_T33 l0_0 a1).f0), .int .i64 0, .int .i64 0, .slice none 0 0]) ?_ 1 _ rfl; refine blk_put (cs := #[.int .i64 0, .int .i64 0, .int .i64 0, .slice none 0 0]) ?_ 0 _ rfl; (with_reducible repeat (first | refine blk_drewN ?_ _ | refine blk_drew ?_ | refine blk_alloc ?_ _)); exact BK103.out⟩, ⟨by repeat (first | (with_reducible first | exact HB.out | apply below_alloc | apply pw_below_drewN | apply below_drew1 | refine below_set ?_ GE101.out | refine below_set ?_ GE103.out) | exact HB.out)⟩⟩
     ·rw [if_neg c15] at H
      have c15b0 : decide (66 < ((rd_T33 l0_0 a1).f0)) = false := decide_eq_false c15
      clear c15
      by_cases c18 : ((rd_T33 l0_0 a1).f1) < 0
      ·rw [if_pos c18] at H
       have c18b0 : decide (((rd_T33 l0_0 a1).f1) < 0) = true := decide_eq_true c18
       clear c18
       have H' := Aside0.mk H
       clear H
       have hnb19 := NB103_101.out
       have hnc19 := NB101_103.out
       have hcz20_0 : w9.cell? ⟨gb103, 0, none⟩ = some (.int .i64 0) := (blk_cell BK103.out 0).trans rfl
       have hcz20_1 : w9.cell? ⟨gb103, 1, none⟩ = some (.int .i64 0) := (blk_cell BK103.out 1).trans rfl
       have hcz20_2 : w9.cell? ⟨gb103, 2, none⟩ = some (.int .i64 0) := (blk_cell BK103.out 2).trans rfl
       have hcz20_3 : w9.cell? ⟨gb103, 3, none⟩ = some (.slice none 0 0) := (blk_cell BK103.out 3).trans rfl
       have hfz20_0 := blk_frozen BK103.out 0
       have hfz20_1 := blk_frozen BK103.out 1
       have hfz20_2 := blk_frozen BK103.out 2
       have hfz20_3 := blk_frozen BK103.out 3
       go_wp2
       go_meet
       case rel => exact ⟨_, (true), (by first | rfl | (simp; done) | (simp [*]; done)), H', ⟨by first | omega | exact Nat.le_refl _⟩, ⟨by (with_reducible repeat (first | refine blk_drewN ?_ _ | refine blk_drew ?_ | refine blk_alloc ?_ _)); refine blk_far ?_ NB101_103.out _; refine blk_far ?_ NB101_103.out _; refine blk_far ?_ NB101_103.out _; refine blk_far ?_ NB101_103.out _; (with_reducible repeat (first | refine blk_drewN ?_ _ | refine blk_drew ?_ | refine blk_alloc ?_ _)); exact BK101.out⟩, ⟨by (with_reducible repeat (first | refine blk_drewN ?_ _ | refine blk_drew ?_ | refine blk_alloc ?_ _)); refine blk_put (cs := #[.int .i64 ((rd_T33 l0_0 a1).f0), .int .i64 ((rd_T33 l0_0 a1).f1), .int .i64 ((rd_T33 l0_0 a1).f2), .slice none 0 0]) ?_ 3 _ rfl; refine blk_put (cs := #[.int .i64 ((rd_T33 l0_0 a1).f0), .int .i64 ((rd_T33 l0_0 a1).f1), .int .i64 0, .slice none 0 0]) ?_ 2 _ rfl; refine blk_put (cs := #[.int .i64 ((rd_T33 l0_0 a1).f0), .int .i64 0, .int .i64 0, .slice none 0 0]) ?_ 1 _ rfl; refine blk_put (cs := #[.int .i64 0, .int .i64 0, .int .i64 0, .slice none 0 0]) ?_ 0 _ rfl; (with_reducible repeat (first | refine blk_drewN ?_ _ | refine blk_drew ?_ | refine blk_alloc ?_ _)); exact BK103.out⟩, ⟨by repeat (first | (with_reducible first | exact HB.out | apply below_alloc | apply pw_below_drewN | apply below_drew1 | refine below_set ?_ GE101.out | refine below_set ?_ GE103.out) | exact HB.out)⟩⟩
      ·rw [if_neg c18] at H
       have c18b0 : decide (((rd_T33 l0_0 a1).f1) < 0) = false := decide_eq_false c18
       clear c18
       by_cases c21 : ((rd_T33 l0_0 a1).f1) > ((rd_T33 l0_0 a1).f2)
       ·rw [if_pos c21] at H
        have c21b0 : decide (((rd_T33 l0_0 a1).f2) < ((rd_T33 l0_0 a1).f1)) = true := decide_eq_true c21
        clear c21
        have H' := Aside0.mk H
        clear H
        have hnb22 := NB103_101.out
        have hnc22 := NB101_103.out
        have hcz23_0 : w9.cell? ⟨gb103, 0, none⟩ = some (.int .i64 0) := (blk_cell BK103.out 0).trans rfl
        have hcz23_1 : w9.cell? ⟨gb103, 1, none⟩ = some (.int .i64 0) := (blk_cell BK103.out 1).trans rfl
        have hcz23_2 : w9.cell? ⟨gb103, 2, none⟩ = some (.int .i64 0) := (blk_cell BK103.out 2).trans rfl
        have hcz23_3 : w9.cell? ⟨gb103, 3, none⟩ = some (.slice none 0 0) := (blk_cell BK103.out 3).trans rfl
        have hfz23_0 := blk_frozen BK103.out 0
        have hfz23_1 := blk_frozen BK103.out 1
        have hfz23_2 := blk_frozen BK103.out 2
        have hfz23_3 := blk_frozen BK103.out 3
        go_wp2
        go_meet
        case rel => exact ⟨_, (true), (by first | rfl | (simp; done) | (simp [*]; done)), H', ⟨by first | omega | exact Nat.le_refl _⟩, ⟨by (with_reducible repeat (first | refine blk_drewN ?_ _ | refine blk_drew ?_ | refine blk_alloc ?_ _)); refine blk_far ?_ NB101_103.out _; refine blk_far ?_ NB101_103.out _; refine blk_far ?_ NB101_103.out _; refine blk_far ?_ NB101_103.out _; (with_reducible repeat (first | refine blk_drewN ?_ _ | refine blk_drew ?_ | refine blk_alloc ?_ _)); exact BK101.out⟩, ⟨by (with_reducible repeat (first | refine blk_drewN ?_ _ | refine blk_drew ?_ | refine blk_alloc ?_ _)); refine blk_put (cs := #[.int .i64 ((rd_T33 l0_0 a1).f0), .int .i64 ((rd_T33 l0_0 a1).f1), .int .i64 ((rd_T33 l0_0 a1).f2), .slice none 0 0]) ?_ 3 _ rfl; refine blk_put (cs := #[.int .i64 ((rd_T33 l0_0 a1).f0), .int .i64 ((rd_T33 l0_0 a1).f1), .int .i64 0, .slice none 0 0]) ?_ 2 _ rfl; refine blk_put (cs := #[.int .i64 ((rd_T33 l0_0 a1).f0), .int .i64 0, .int .i64 0, .slice none 0 0]) ?_ 1 _ rfl; refine blk_put (cs := #[.int .i64 0, .int .i64 0, .int .i64 0, .slice none 0 0]) ?_ 0 _ rfl; (with_reducible repeat (first | refine blk_drewN ?_ _ | refine blk_drew ?_ | refine blk_alloc ?_ _)); exact BK103.out⟩, ⟨by repeat (first | (with_reducible first | exact HB.out | apply below_alloc | apply pw_below_drewN | apply below_drew1 | refine below_set ?_ GE101.out | refine below_set ?_ GE103.out) | exact HB.out)⟩⟩
       ·rw [if_neg c21] at H
        have c21b0 : decide (((rd_T33 l0_0 a1).f2) < ((rd_T33 l0_0 a1).f1)) = false := decide_eq_false c21
        clear c21
        have H' := Aside0.mk H
        clear H
        have hnb24 := NB103_101.out
        have hnc24 := NB101_103.out
        have hcz25_0 : w9.cell? ⟨gb103, 0, none⟩ = some (.int .i64 0) := (blk_cell BK103.out 0).trans rfl
        have hcz25_1 : w9.cell? ⟨gb103, 1, none⟩ = some (.int .i64 0) := (blk_cell BK103.out 1).trans rfl
        have hcz25_2 : w9.cell? ⟨gb103, 2, none⟩ = some (.int .i64 0) := (blk_cell BK103.out 2).trans rfl
        have hcz25_3 : w9.cell? ⟨gb103, 3, none⟩ = some (.slice none 0 0) := (blk_cell BK103.out 3).trans rfl
        have hfz25_0 := blk_frozen BK103.out 0
        have hfz25_1 := blk_frozen BK103.out 1
        have hfz25_2 := blk_frozen BK103.out 2
        have hfz25_3 := blk_frozen BK103.out 3
        go_wp2
        go_meet
        case rel => exact ⟨_, (decide (((rd_T33 l0_0 a1).f2) > a2)), (by first | rfl | (simp; done) | (simp [*]; done)), H', ⟨by first | omega | exact Nat.le_refl _⟩, ⟨by (with_reducible repeat (first | refine blk_drewN ?_ _ | refine blk_drew ?_ | refine blk_alloc ?_ _)); refine blk_far ?_ NB101_103.out _; refine blk_far ?_ NB101_103.out _; refine blk_far ?_ NB101_103.out _; refine blk_far ?_ NB101_103.out _; (with_reducible repeat (first | refine blk_drewN ?_ _ | refine blk_drew ?_ | refine blk_alloc ?_ _)); exact BK101.out⟩, ⟨by (with_reducible repeat (first | refine blk_drewN ?_ _ | refine blk_drew ?_ | refine blk_alloc ?_ _)); refine blk_put (cs := #[.int .i64 ((rd_T33 l0_0 a1).f0), .int .i64 ((rd_T33 l0_0 a1).f1), .int .i64 ((rd_T33 l0_0 a1).f2), .slice none 0 0]) ?_ 3 _ rfl; refine blk_put (cs := #[.int .i64 ((rd_T33 l0_0 a1).f0), .int .i64 ((rd_T33 l0_0 a1).f1), .int .i64 0, .slice none 0 0]) ?_ 2 _ rfl; refine blk_put (cs := #[.int .i64 ((rd_T33 l0_0 a1).f0), .int .i64 0, .int .i64 0, .slice none 0 0]) ?_ 1 _ rfl; refine blk_put (cs := #[.int .i64 0, .int .i64 0, .int .i64 0, .slice none 0 0]) ?_ 0 _ rfl; (with_reducible repeat (first | refine blk_drewN ?_ _ | refine blk_drew ?_ | refine blk_alloc ?_ _)); exact BK103.out⟩, ⟨by repeat (first | (with_reducible first | exact HB.out | apply below_alloc | apply pw_below_drewN | apply below_drew1 | refine below_set ?_ GE101.out | refine below_set ?_ GE103.out) | exact HB.out)⟩⟩
   case rest =>
    clear HC6
    try clear c1
    try clear p1
    try clear q1
    try clear hx1
    try clear c2
    try clear p2
    try clear c4
    try clear c4b0
    try clear c5
    try clear c5b0
    try clear c10
    try clear p10
    try clear q10
    try clear hx10
    try clear c12
    try clear c12b0
    try clear c13
    try clear c15
    try clear c15b0
    try clear c16
    try clear c18
    try clear c18b0
    try clear c19
    try clear c21
    try clear c21b0
    try clear c22
    try clear c24
    try clear hcz11_0
    try clear hcz11_1
    try clear hcz11_2
    try clear hcz11_3
    try clear hcz14_0
    try clear hcz14_1
    try clear hcz14_2
    try clear hcz14_3
    try clear hcz17_0
    try clear hcz17_1
    try clear hcz17_2
    try clear hcz17_3
    try clear hcz20_0
    try clear hcz20_1
    try clear hcz20_2
    try clear hcz20_3
    try clear hcz23_0
    try clear hcz23_1
    try clear hcz23_2
    try clear hcz23_3
    try clear hcz25_0
    try clear hcz25_1
    try clear hcz25_2
    try clear hcz25_3
    try clear hcz8_0
    try clear hfz11_0
    try clear hfz11_1
    try clear hfz11_2
    try clear hfz11_3
    try clear hfz14_0
    try clear hfz14_1
    try clear hfz14_2
    try clear hfz14_3
    try clear hfz17_0
    try clear hfz17_1
    try clear hfz17_2
    try clear hfz17_3
    try clear hfz20_0
    try clear hfz20_1
    try clear hfz20_2
    try clear hfz20_3
    try clear hfz23_0
    try clear hfz23_1
    try clear hfz23_2
    try clear hfz23_3
    try clear hfz25_0
    try clear hfz25_1
    try clear hfz25_2
    try clear hfz25_3
    try clear hfz8_0
    try clear hx102_0
    try clear hx102_1
    try clear hx102_2
    try clear hx102_3
    try clear p102
    try clear q102
    obtain ⟨kq, x42_5, rfl, HA, HJ5, BK101, BK103, HB⟩ := hcut
    cases kq with
    | zero => exact absurd HA.out (by simp [cavilref13_one.j0])
    | succ kj5 =>
     have H := HA.out
     clear HA
     simp only [cavilref13_one.j0] at H
     by_cases c26 : x42_5 = true
     ·subst c26
      have H1 : (some false) = some r := by rw [if_pos rfl] at H; exact H
      clear H
      have H := H1
      clear H1
      obtain rfl := Option.some.inj H
      go_wp2
      go_ret
      exact ⟨by first | rfl | (simp [*, errW_none, errW_some, erT_no, erV_no, erT_at, erV_at] <;> rfl), by repeat (first | (with_reducible first | exact HB.out | apply below_alloc | apply pw_below_drewN | apply below_drew1 | refine below_set ?_ GE101.out | refine below_set ?_ GE103.out) | exact HB.out)⟩
     ·replace c26 := Bool.eq_false_iff.mpr c26
      subst c26
      have H1 : (cavilref13_one.l0 kj5 a1 0 l0_0 ((rd_T33 l0_0 a1).f0) ((rd_T33 l0_0 a1).f1) ((rd_T33 l0_0 a1).f2) ((rd_T33 l0_0 a1).f3)) = some r := by rw [if_neg (show ¬ (false = true) by decide)] at H; exact H
      clear H
      have H := H1
      clear H1
      have H' := Aside0.mk H
      clear H
      go_wp2
      go_loopg [8] kj5 (fun kq v8 w' => ∃ (x8_2 : Int), v8 = .int .i64 x8_2 ∧ Aside0 (cavilref13_one.l0 kq a1 x8_2 l0_0 ((rd_T33 l0_0 a1).f0) ((rd_T33 l0_0 a1).f1) ((rd_T33 l0_0 a1).f2) ((rd_T33 l0_0 a1).f3) = some r) ∧ Aside0 (kq ≤ kj5) ∧ Aside0 (w'.heap[gb101]? = some (.cells #[(.slice (some ad102) l0_0.length c0_0)] 24 (0, 0))) ∧ Aside0 (w'.heap[gb103]? = some (.cells #[.int .i64 ((rd_T33 l0_0 a1).f0), .int .i64 ((rd_T33 l0_0 a1).f1), .int .i64 ((rd_T33 l0_0 a1).f2), (.slice A102_3 ((rd_T33 l0_0 a1).f3).length c102_3)] 33 (0, 0))) ∧ Aside0 (Below w.heap.size w w'))
      case atStart => exact ⟨(0), (by first | rfl | (simp; done) | (simp [*]; done)), H', ⟨Nat.le_refl _⟩, ⟨by (with_reducible repeat (first | refine blk_drewN ?_ _ | refine blk_drew ?_ | refine blk_alloc ?_ _)); exact BK101.out⟩, ⟨by (with_reducible repeat (first | refine blk_drewN ?_ _ | refine blk_drew ?_ | refine blk_alloc ?_ _)); exact BK103.out⟩, ⟨by repeat (first | (with_reducible first | exact HB.out | apply below_alloc | apply pw_below_drewN | apply below_drew1 | refine below_set ?_ GE101.out | refine below_set ?_ GE103.out) | exact HB.out)⟩⟩
      case round =>
       clear H'
       try clear c1
       try clear p1
       try clear q1
       try clear hx1
       try clear c2
       try clear p2
       try clear c4
       try clear c4b0
       try clear c5
       try clear c5b0
       try clear c10
       try clear p10
       try clear q10
       try clear hx10
       try clear c12
       try clear c12b0
       try clear c13
       try clear c15
       try clear c15b0
       try clear c16
       try clear c18
       try clear c18b0
       try clear c19
       try clear c21
       try clear c21b0
       try clear c22
       try clear c24
       try clear c26
       try clear hcz11_0
       try clear hcz11_1
       try clear hcz11_2
       try clear hcz11_3
       try clear hcz14_0
       try clear hcz14_1
       try clear hcz14_2
       try clear hcz14_3
       try clear hcz17_0
       try clear hcz17_1
       try clear hcz17_2
       try clear hcz17_3
       try clear hcz20_0
       try clear hcz20_1
       try clear hcz20_2
       try clear hcz20_3
       try clear hcz23_0
       try clear hcz23_1
       try clear hcz23_2
       try clear hcz23_3
       try clear hcz25_0
       try clear hcz25_1
       try clear hcz25_2
       try clear hcz25_3
       try clear hcz8_0
       try clear hfz11_0
       try clear hfz11_1
       try clear hfz11_2
       try clear hfz11_3
       try clear hfz14_0
       try clear hfz14_1
       try clear hfz14_2
       try clear hfz14_3
       try clear hfz17_0
       try clear hfz17_1
       try clear hfz17_2
       try clear hfz17_3
       try clear hfz20_0
       try clear hfz20_1
       try clear hfz20_2
       try clear hfz20_3
       try clear hfz23_0
       try clear hfz23_1
       try clear hfz23_2
       try clear hfz23_3
       try clear hfz25_0
       try clear hfz25_1
       try clear hfz25_2
       try clear hfz25_3
       try clear hfz8_0
       try clear hx102_0
       try clear hx102_1
       try clear hx102_2
       try clear hx102_3
       try clear p1
       try clear p10
       try clear p102
       try clear p2
       try clear q1
       try clear q10
       try clear q102
       obtain ⟨x8_2, rfl, HA, HK2, BK101, BK103, HB⟩ := hrel
       cases gk with
       | zero => exact absurd HA.out (by simp [cavilref13_one.l0])
       | succ k2 =>
        have H := HA.out
        clear HA
        simp only [cavilref13_one.l0] at H
        by_cases c27 : x8_2 < (((rd_T33 l0_0 a1).f3).length : Int)
        ·rw [if_pos c27] at H
         have c27b0 : decide (x8_2 < (((rd_T33 l0_0 a1).f3).length : Int)) = true := decide_eq_true c27
         clear c27
         by_cases c28 : 0 ≤ x8_2
         ·rw [if_pos c28] at H
          have c28b0 : decide (0 ≤ x8_2) = true := decide_eq_true c28
          clear c28
          by_cases c29 : (rd ((rd_T33 l0_0 a1).f3) x8_2) < 0
          ·rw [if_pos c29] at H
           have c29b0 : decide ((rd ((rd_T33 l0_0 a1).f3) x8_2) < 0) = true := decide_eq_true c29
           clear c29
           obtain rfl := Option.some.inj H
           have hnb30 := NB103_101.out
           have hnc30 := NB101_103.out
           have hcz31_0 : wr.cell? ⟨gb103, 0, none⟩ = some (.int .i64 ((rd_T33 l0_0 a1).f0)) := (blk_cell BK103.out 0).trans rfl
           have hcz31_1 : wr.cell? ⟨gb103, 1, none⟩ = some (.int .i64 ((rd_T33 l0_0 a1).f1)) := (blk_cell BK103.out 1).trans rfl
           have hcz31_2 : wr.cell? ⟨gb103, 2, none⟩ = some (.int .i64 ((rd_T33 l0_0 a1).f2)) := (blk_cell BK103.out 2).trans rfl
           have hcz31_3 : wr.cell? ⟨gb103, 3, none⟩ = some (.slice A102_3 ((rd_T33 l0_0 a1).f3).length c102_3) := (blk_cell BK103.out 3).trans rfl
           have hfz31_0 := blk_frozen BK103.out 0
           have hfz31_1 := blk_frozen BK103.out 1
           have hfz31_2 := blk_frozen BK103.out 2
           have hfz31_3 := blk_frozen BK103.out 3
           have p104 : 0 ≤ (x8_2 : Int) := of_dec
           have q104 : x8_2 < (((rd_T33 l0_0 a1).f3).length : Int) := of_dec
           obtain ⟨ad104, e104, hx104_0⟩ := Kd.at_int HR102_3.out x8_2 p104 q104
           cases e104
           replace hx104_0 := cell_b HB.out hx104_0
           replace p104 := eq_true p104
           replace q104 := eq_true q104
           go_wp2
           go_ret
           exact ⟨by first | rfl | (simp [*, errW_none, errW_some, erT_no, erV_no, erT_at, erV_at] <;> rfl), by repeat (first | (with_reducible first | exact HB.out | apply below_alloc | apply pw_below_drewN | apply below_drew1 | refine below_set ?_ GE101.out | refine below_set ?_ GE103.out) | exact HB.out)⟩
          ·rw [if_neg c29] at H
           have c29b0 : decide ((rd ((rd_T33 l0_0 a1).f3) x8_2) < 0) = false := decide_eq_false c29
           clear c29
           by_cases c32 : (rd ((rd_T33 l0_0 a1).f3) x8_2) ≥ a1
           ·rw [if_pos c32] at H
            have c32b0 : decide (a1 ≤ (rd ((rd_T33 l0_0 a1).f3) x8_2)) = true := decide_eq_true c32
            clear c32
            obtain rfl := Option.some.inj H
            have hnb33 := NB103_101.out
            have hnc33 := NB101_103.out
            have hcz34_0 : wr.cell? ⟨gb103, 0, none⟩ = some (.int .i64 ((rd_T33 l0_0 a1).f0)) := (blk_cell BK103.out 0).trans rfl
            have hcz34_1 : wr.cell? ⟨gb103, 1, none⟩ = some (.int .i64 ((rd_T33 l0_0 a1).f1)) := (blk_cell BK103.out 1).trans rfl
            have hcz34_2 : wr.cell? ⟨gb103, 2, none⟩ = some (.int .i64 ((rd_T33 l0_0 a1).f2)) := (blk_cell BK103.out 2).trans rfl
            have hcz34_3 : wr.cell? ⟨gb103, 3, none⟩ = some (.slice A102_3 ((rd_T33 l0_0 a1).f3).length c102_3) := (blk_cell BK103.out 3).trans rfl
            have hfz34_0 := blk_frozen BK103.out 0
            have hfz34_1 := blk_frozen BK103.out 1
            have hfz34_2 := blk_frozen BK103.out 2
            have hfz34_3 := blk_frozen BK103.out 3
            have p104 : 0 ≤ (x8_2 : Int) := of_dec
            have q104 : x8_2 < (((rd_T33 l0_0 a1).f3).length : Int) := of_dec
            obtain ⟨ad104, e104, hx104_0⟩ := Kd.at_int HR102_3.out x8_2 p104 q104
            cases e104
            replace hx104_0 := cell_b HB.out hx104_0
            replace p104 := eq_true p104
            replace q104 := eq_true q104
            have p105 : 0 ≤ (x8_2 : Int) := of_dec
            have q105 : x8_2 < (((rd_T33 l0_0 a1).f3).length : Int) := of_dec
            obtain ⟨ad105, e105, hx105_0⟩ := Kd.at_int HR102_3.out x8_2 p105 q105
            obtain rfl : ad104 = ad105 := (by injection e105)
            replace hx105_0 := cell_b HB.out hx105_0
            replace p105 := eq_true p105
            replace q105 := eq_true q105
            go_wp2
            go_ret
            exact ⟨by first | rfl | (simp [*, errW_none, errW_some, erT_no, erV_no, erT_at, erV_at] <;> rfl), by repeat (first | (with_reducible first | exact HB.out | apply below_alloc | apply pw_below_drewN | apply below_drew1 | refine below_set ?_ GE101.out | refine below_set ?_ GE103.out) | exact HB.out)⟩
           ·rw [if_neg c32] at H
            have c32b0 : decide (a1 ≤ (rd ((rd_T33 l0_0 a1).f3) x8_2)) = false := decide_eq_false c32
            clear c32
            have H' := Aside0.mk H
            clear H
            have hnb35 := NB103_101.out
            have hnc35 := NB101_103.out
            have hcz36_0 : wr.cell? ⟨gb103, 0, none⟩ = some (.int .i64 ((rd_T33 l0_0 a1).f0)) := (blk_cell BK103.out 0).trans rfl
            have hcz36_1 : wr.cell? ⟨gb103, 1, none⟩ = some (.int .i64 ((rd_T33 l0_0 a1).f1)) := (blk_cell BK103.out 1).trans rfl
            have hcz36_2 : wr.cell? ⟨gb103, 2, none⟩ = some (.int .i64 ((rd_T33 l0_0 a1).f2)) := (blk_cell BK103.out 2).trans rfl
            have hcz36_3 : wr.cell? ⟨gb103, 3, none⟩ = some (.slice A102_3 ((rd_T33 l0_0 a1).f3).length c102_3) := (blk_cell BK103.out 3).trans rfl
            have hfz36_0 := blk_frozen BK103.out 0
            have hfz36_1 := blk_frozen BK103.out 1
            have hfz36_2 := blk_frozen BK103.out 2
            have hfz36_3 := blk_frozen BK103.out 3
            have p104 : 0 ≤ (x8_2 : Int) := of_dec
            have q104 : x8_2 < (((rd_T33 l0_0 a1).f3).length : Int) := of_dec
            obtain ⟨ad104, e104, hx104_0⟩ := Kd.at_int HR102_3.out x8_2 p104 q104
            cases e104
            replace hx104_0 := cell_b HB.out hx104_0
            replace p104 := eq_true p104
            replace q104 := eq_true q104
            have p105 : 0 ≤ (x8_2 : Int) := of_dec
            have q105 : x8_2 < (((rd_T33 l0_0 a1).f3).length : Int) := of_dec
            obtain ⟨ad105, e105, hx105_0⟩ := Kd.at_int HR102_3.out x8_2 p105 q105
            obtain rfl : ad104 = ad105 := (by injection e105)
            replace hx105_0 := cell_b HB.out hx105_0
            replace p105 := eq_true p105
            replace q105 := eq_true q105
            go_wp2
            go_roundg k2
            case measure => have := HJ5.out; have := HK2.out; omega
            case rel => exact ⟨(wrap64 (x8_2 + 1)), (by first | rfl | (simp; done) | (simp [*]; done)), H', ⟨by have := HJ5.out; have := HK2.out; omega⟩, ⟨by (with_reducible repeat (first | refine blk_drewN ?_ _ | refine blk_drew ?_ | refine blk_alloc ?_ _)); exact BK101.out⟩, ⟨by (with_reducible repeat (first | refine blk_drewN ?_ _ | refine blk_drew ?_ | refine blk_alloc ?_ _)); exact BK103.out⟩, ⟨by repeat (first | (with_reducible first | exact HB.out | apply below_alloc | apply pw_below_drewN | apply below_drew1 | refine below_set ?_ GE101.out | refine below_set ?_ GE103.out) | exact HB.out)⟩⟩
         ·rw [if_neg c28] at H
          exact absurd H (by simp)
        ·rw [if_neg c27] at H
         have c27b0 : decide (x8_2 < (((rd_T33 l0_0 a1).f3).length : Int)) = false := decide_eq_false c27
         clear c27
         have H' := Aside0.mk H
         clear H
         have hnb37 := NB103_101.out
         have hnc37 := NB101_103.out
         have hcz38_0 : wr.cell? ⟨gb103, 0, none⟩ = some (.int .i64 ((rd_T33 l0_0 a1).f0)) := (blk_cell BK103.out 0).trans rfl
         have hcz38_1 : wr.cell? ⟨gb103, 1, none⟩ = some (.int .i64 ((rd_T33 l0_0 a1).f1)) := (blk_cell BK103.out 1).trans rfl
         have hcz38_2 : wr.cell? ⟨gb103, 2, none⟩ = some (.int .i64 ((rd_T33 l0_0 a1).f2)) := (blk_cell BK103.out 2).trans rfl
         have hcz38_3 : wr.cell? ⟨gb103, 3, none⟩ = some (.slice A102_3 ((rd_T33 l0_0 a1).f3).length c102_3) := (blk_cell BK103.out 3).trans rfl
         have hfz38_0 := blk_frozen BK103.out 0
         have hfz38_1 := blk_frozen BK103.out 1
         have hfz38_2 := blk_frozen BK103.out 2
         have hfz38_3 := blk_frozen BK103.out 3
         go_wp2
         go_loopg [9, 10] k2 (fun kq v9 v10 w' => ∃ (x9_3 : Int) (x10_3 : Int), v9 = .int .i64 x9_3 ∧ v10 = .int .i64 x10_3 ∧ Aside0 (cavilref13_one.l1 kq x9_3 x10_3 l0_0 ((rd_T33 l0_0 a1).f0) ((rd_T33 l0_0 a1).f1) ((rd_T33 l0_0 a1).f2) ((rd_T33 l0_0 a1).f3) = some r) ∧ Aside0 (kq ≤ k2) ∧ Aside0 (w'.heap[gb101]? = some (.cells #[(.slice (some ad102) l0_0.length c0_0)] 24 (0, 0))) ∧ Aside0 (w'.heap[gb103]? = some (.cells #[.int .i64 ((rd_T33 l0_0 a1).f0), .int .i64 ((rd_T33 l0_0 a1).f1), .int .i64 ((rd_T33 l0_0 a1).f2), (.slice A102_3 ((rd_T33 l0_0 a1).f3).length c102_3)] 33 (0, 0))) ∧ Aside0 (Below w.heap.size w w'))
         case atStart => exact ⟨(((rd_T33 l0_0 a1).f1)), (0), (by first | rfl | (simp; done) | (simp [*]; done)), (by first | rfl | (simp; done) | (simp [*]; done)), H', ⟨Nat.le_refl _⟩, ⟨by (with_reducible repeat (first | refine blk_drewN ?_ _ | refine blk_drew ?_ | refine blk_alloc ?_ _)); exact BK101.out⟩, ⟨by (with_reducible repeat (first | refine blk_drewN ?_ _ | refine blk_drew ?_ | refine blk_alloc ?_ _)); exact BK103.out⟩, ⟨by repeat (first | (with_reducible first | exact HB.out | apply below_alloc | apply pw_below_drewN | apply below_drew1 | refine below_set ?_ GE101.out | refine below_set ?_ GE103.out) | exact HB.out)⟩⟩
         case round =>
          clear H'
          try clear c1
          try clear p1
          try clear q1
          try clear hx1
          try clear c2
          try clear p2
          try clear c3
          try clear c4
          try clear c4b0
          try clear c5
          try clear c5b0
          try clear p6
          try clear c10
          try clear p10
          try clear q10
          try clear hx10
          try clear c12
          try clear c12b0
          try clear c13
          try clear c15
          try clear c15b0
          try clear c16
          try clear c18
          try clear c18b0
          try clear c19
          try clear c21
          try clear c21b0
          try clear c22
          try clear c24
          try clear c26
          try clear c27
          try clear c27b0
          try clear c28
          try clear c28b0
          try clear c29
          try clear c29b0
          try clear c30
          try clear c32
          try clear c32b0
          try clear c33
          try clear c35
          try clear c37
          try clear hcz11_0
          try clear hcz11_1
          try clear hcz11_2
          try clear hcz11_3
          try clear hcz14_0
          try clear hcz14_1
          try clear hcz14_2
          try clear hcz14_3
          try clear hcz17_0
          try clear hcz17_1
          try clear hcz17_2
          try clear hcz17_3
          try clear hcz20_0
          try clear hcz20_1
          try clear hcz20_2
          try clear hcz20_3
          try clear hcz23_0
          try clear hcz23_1
          try clear hcz23_2
          try clear hcz23_3
          try clear hcz25_0
          try clear hcz25_1
          try clear hcz25_2
          try clear hcz25_3
          try clear hcz31_0
          try clear hcz31_1
          try clear hcz31_2
          try clear hcz31_3
          try clear hcz34_0
          try clear hcz34_1
          try clear hcz34_2
          try clear hcz34_3
          try clear hcz36_0
          try clear hcz36_1
          try clear hcz36_2
          try clear hcz36_3
          try clear hcz38_0
          try clear hcz38_1
          try clear hcz38_2
          try clear hcz38_3
          try clear hcz8_0
          try clear hfz11_0
          try clear hfz11_1
          try clear hfz11_2
          try clear hfz11_3
          try clear hfz14_0
          try clear hfz14_1
          try clear hfz14_2
          try clear hfz14_3
          try clear hfz17_0
          try clear hfz17_1
          try clear hfz17_2
          try clear hfz17_3
          try clear hfz20_0
          try clear hfz20_1
          try clear hfz20_2
          try clear hfz20_3
          try clear hfz23_0
          try clear hfz23_1
          try clear hfz23_2
          try clear hfz23_3
          try clear hfz25_0
          try clear hfz25_1
          try clear hfz25_2
          try clear hfz25_3
          try clear hfz31_0
          try clear hfz31_1
          try clear hfz31_2
          try clear hfz31_3
          try clear hfz34_0
          try clear hfz34_1
          try clear hfz34_2
          try clear hfz34_3
          try clear hfz36_0
          try clear hfz36_1
          try clear hfz36_2
          try clear hfz36_3
          try clear hfz38_0
          try clear hfz38_1
          try clear hfz38_2
          try clear hfz38_3
          try clear hfz8_0
          try clear hx102_0
          try clear hx102_1
          try clear hx102_2
          try clear hx102_3
          try clear hx104_0
          try clear hx105_0
          try clear p1
          try clear p10
          try clear p102
          try clear p104
          try clear p105
          try clear p2
          try clear q1
          try clear q10
          try clear q102
          try clear q104
          try clear q105
          obtain ⟨x9_3, x10_3, rfl, rfl, HA, HK3, BK101, BK103, HB⟩ := hrel
          cases gk with
          | zero => exact absurd HA.out (by simp [cavilref13_one.l1])
          | succ k3 =>
           have H := HA.out
           clear HA
           simp only [cavilref13_one.l1] at H
           by_cases c39 : x10_3 < (((rd_T33 l0_0 a1).f3).length : Int)
           ·rw [if_pos c39] at H
            have c39b0 : decide (x10_3 < (((rd_T33 l0_0 a1).f3).length : Int)) = true := decide_eq_true c39
            clear c39
            by_cases c40 : 0 ≤ x10_3
            ·rw [if_pos c40] at H
             have c40b0 : decide (0 ≤ x10_3) = true := decide_eq_true c40
             clear c40
             by_cases c41 : 0 ≤ (rd ((rd_T33 l0_0 a1).f3) x10_3)
             ·rw [if_pos c41] at H
              have c41b0 : decide (0 ≤ (rd ((rd_T33 l0_0 a1).f3) x10_3)) = true := decide_eq_true c41
              clear c41
              by_cases c42 : (rd ((rd_T33 l0_0 a1).f3) x10_3) < (l0_0.length : Int)
              ·rw [if_pos c42] at H
               have c42b0 : decide ((rd ((rd_T33 l0_0 a1).f3) x10_3) < (l0_0.length : Int)) = true := decide_eq_true c42
               clear c42
               by_cases c43 : ((rd_T33 l0_0 (rd ((rd_T33 l0_0 a1).f3) x10_3)).f1) < x9_3
               ·rw [if_pos c43] at H
                have c43b0 : decide (((rd_T33 l0_0 (rd ((rd_T33 l0_0 a1).f3) x10_3)).f1) < x9_3) = true := decide_eq_true c43
                clear c43
                obtain rfl := Option.some.inj H
                have hnb44 := NB103_101.out
                have hnc44 := NB101_103.out
                have hcz45_0 : wr.cell? ⟨gb103, 0, none⟩ = some (.int .i64 ((rd_T33 l0_0 a1).f0)) := (blk_cell BK103.out 0).trans rfl
                have hcz45_1 : wr.cell? ⟨gb103, 1, none⟩ = some (.int .i64 ((rd_T33 l0_0 a1).f1)) := (blk_cell BK103.out 1).trans rfl
                have hcz45_2 : wr.cell? ⟨gb103, 2, none⟩ = some (.int .i64 ((rd_T33 l0_0 a1).f2)) := (blk_cell BK103.out 2).trans rfl
                have hcz45_3 : wr.cell? ⟨gb103, 3, none⟩ = some (.slice A102_3 ((rd_T33 l0_0 a1).f3).length c102_3) := (blk_cell BK103.out 3).trans rfl
                have hfz45_0 := blk_frozen BK103.out 0
                have hfz45_1 := blk_frozen BK103.out 1
                have hfz45_2 := blk_frozen BK103.out 2
                have hfz45_3 := blk_frozen BK103.out 3
                try go_wp2
                have n0_ := Aside0.mk (blk_drew BK101.out)
                have n1_ := Aside0.mk (blk_drew BK103.out)
                have n2_ := Aside0.mk (below_drew1 HB.out)
                clear BK101
                clear BK103
                clear HB
                have BK101 := n0_
                have BK103 := n1_
                have HB := n2_
                clear n0_ n1_ n2_
                have p106 : 0 ≤ (x10_3 : Int) := of_dec
                have q106 : x10_3 < (((rd_T33 l0_0 a1).f3).length : Int) := of_dec
                obtain ⟨ad106, e106, hx106_0⟩ := Kd.at_int HR102_3.out x10_3 p106 q106
                have hw106_0 := hx106_0
                cases e106
                replace hx106_0 := cell_b HB.out hx106_0
                replace p106 := eq_true p106
                replace q106 := eq_true q106
                have p107 : 0 ≤ ((rd ((rd_T33 l0_0 a1).f3) x10_3) : Int) := of_dec
                have q107 : (rd ((rd_T33 l0_0 a1).f3) x10_3) < (l0_0.length : Int) := of_dec
                obtain ⟨ad107, A107_3, c107_3, e107, hx107_0, hx107_1, hx107_2, hx107_3, hl107_3, hi107_3⟩ := at_T33 HR0_0.out (rd ((rd_T33 l0_0 a1).f3) x10_3) p107 q107
                have hw107_3 := hx107_3
                have hw107_2 := hx107_2
                have hw107_1 := hx107_1
                have hw107_0 := hx107_0
                obtain rfl : ad102 = ad107 := (by injection e107)
                replace hx107_0 := cell_b HB.out hx107_0
                replace hx107_1 := cell_b HB.out hx107_1
                replace hx107_2 := cell_b HB.out hx107_2
                replace hx107_3 := cell_b HB.out hx107_3
                have HR107_3 := Aside0.mk hi107_3
                have HC107_3 := Aside0.mk hl107_3
                clear hi107_3 hl107_3
                replace p107 := eq_true p107
                replace q107 := eq_true q107
                refine start_ (n := 11) (S := fun w' => w'.cell? ⟨gb101, 0, none⟩ = some (.slice (some ad102) l0_0.length c0_0) ∧ w'.cell? ⟨gb103, 0, none⟩ = some (.int .i64 ((rd_T33 l0_0 a1).f0)) ∧ w'.cell? ⟨gb103, 1, none⟩ = some (.int .i64 ((rd_T33 l0_0 a1).f1)) ∧ w'.cell? ⟨gb103, 2, none⟩ = some (.int .i64 ((rd_T33 l0_0 a1).f2)) ∧ w'.cell? ⟨gb103, 3, none⟩ = some (.slice (some ad106) ((rd_T33 l0_0 a1).f3).length c102_3) ∧ w'.cell? (ad106.add (x10_3).toNat) = some (.int .i64 (rd ((rd_T33 l0_0 a1).f3) x10_3)) ∧ w'.cell? (ad102.add (((rd ((rd_T33 l0_0 a1).f3) x10_3)).toNat * 4)) = some (.int .i64 ((rd_T33 l0_0 (rd ((rd_T33 l0_0 a1).f3) x10_3)).f0)) ∧ w'.cell? ⟨(ad102.add (((rd ((rd_T33 l0_0 a1).f3) x10_3)).toNat * 4)).block, (ad102.add (((rd ((rd_T33 l0_0 a1).f3) x10_3)).toNat * 4)).off + 1, none⟩ = some (.int .i64 ((rd_T33 l0_0 (rd ((rd_T33 l0_0 a1).f3) x10_3)).f1)) ∧ w'.cell? ⟨(ad102.add (((rd ((rd_T33 l0_0 a1).f3) x10_3)).toNat * 4)).block, (ad102.add (((rd ((rd_T33 l0_0 a1).f3) x10_3)).toNat * 4)).off + 2, none⟩ = some (.int .i64 ((rd_T33 l0_0 (rd ((rd_T33 l0_0 a1).f3) x10_3)).f2)) ∧ w'.cell? ⟨(ad102.add (((rd ((rd_T33 l0_0 a1).f3) x10_3)).toNat * 4)).block, (ad102.add (((rd ((rd_T33 l0_0 a1).f3) x10_3)).toNat * 4)).off + 3, none⟩ = some (.slice A107_3 ((rd_T33 l0_0 (rd ((rd_T33 l0_0 a1).f3) x10_3)).f3).length c107_3)) (ds := []) #[false, false, false, false, false, false, false, false, false, false, false] (by kernel_rfl) rfl rfl ⟨(blk_cell BK101.out 0).trans rfl, (blk_cell BK103.out 0).trans rfl, (blk_cell BK103.out 1).trans rfl, (blk_cell BK103.out 2).trans rfl, (blk_cell BK103.out 3).trans rfl, (cell_b HB.out hw106_0), (cell_b HB.out hw107_0), (cell_b HB.out hw107_1), (cell_b HB.out hw107_2), (cell_b HB.out hw107_3)⟩ (fun hHeld => ?_); refine with_tabW cavilref13_one.tab13 cavilref13_one.bits13 (fun HT_ HW_ => ?_)
                generalize wr.drew = w46 at BK101 BK103 HB HR107_3 hx106_0 hx107_0 hx107_1 hx107_2 hx107_3 hHeld ⊢
                refine pure_ (i := 0) (N := some 74) (v := ?_) (a' := ?_) #[true, false, false, false, false, false, false, false, false, false, false] rfl rfl (any_of HT_.out (by kernel_rfl)) (fun _ _ _ h => h) (Or.inl ⟨by rfl, ?_⟩) ?_ ?_; rotate_left; { intro w'; go_simp; with_reducible rfl }; rotate_left; { simp only [Act.put, List.setIfInBounds_toArray, List.set_cons_zero, List.set_cons_succ, i64_w, i32_w]; rfl }
                refine pure_ (i := 2) (N := some 76) (v := ?_) (a' := ?_) #[true, false, true, false, false, false, false, false, false, false, false] rfl rfl (any_of HT_.out (by kernel_rfl)) (fun _ _ _ h => h) (Or.inl ⟨by rfl, ?_⟩) ?_ ?_; rotate_left; { intro w'; go_simp; with_reducible rfl }; rotate_left; { simp only [Act.put, List.setIfInBounds_toArray, List.set_cons_zero, List.set_cons_succ, i64_w, i32_w]; rfl }
                refine pure_ (i := 4) (N := some 78) (v := ?_) (a' := ?_) #[true, false, true, false, true, false, false, false, false, false, false] rfl rfl (any_of HT_.out (by kernel_rfl)) (fun _ _ _ h => h) (Or.inl ⟨by rfl, ?_⟩) ?_ ?_; rotate_left; { intro w'; go_simp; with_reducible rfl }; rotate_left; { simp only [Act.put, List.setIfInBounds_toArray, List.set_cons_zero, List.set_cons_succ, i64_w, i32_w]; rfl }
                refine take_ (i := 1) (N := some 75) (v := ?_) (a' := ?_) #[true, true, true, false, true, false, false, false, false, false, false] rfl rfl (take_ofW HT_.out HW_.out (by kernel_rfl)) (fun _ _ _ h => h) (Or.inl ⟨by rfl, ?_⟩) hHeld ?_ ?_; rotate_left; { rintro w' ⟨s0, s1, s2, s3, s4, s5, s6, s7, s8, s9⟩; go_simp; with_reducible rfl }; rotate_left; { simp only [Act.put, List.setIfInBounds_toArray, List.set_cons_zero, List.set_cons_succ, i64_w, i32_w]; rfl }
                refine take_ (i := 3) (N := some 77) (v := ?_) (a' := ?_) #[true, true, true, true, true, false, false, false, false, false, false] rfl rfl (take_ofW HT_.out HW_.out (by kernel_rfl)) (fun _ _ _ h => h) (Or.inl ⟨by rfl, ?_⟩) hHeld ?_ ?_; rotate_left; { rintro w' ⟨s0, s1, s2, s3, s4, s5, s6, s7, s8, s9⟩; go_simp; with_reducible rfl }; rotate_left; { simp only [Act.put, List.setIfInBounds_toArray, List.set_cons_zero, List.set_cons_succ, i64_w, i32_w]; rfl }
                refine pure_ (i := 5) (N := some 79) (v := ?_) (a' := ?_) #[true, true, true, true, true, true, false, false, false, false, false] rfl rfl (any_of HT_.out (by kernel_rfl)) (fun _ _ _ h => h) (Or.inl ⟨by rfl, ?_⟩) ?_ ?_; rotate_left; { intro w'; go_simp; with_reducible rfl }; rotate_left; { simp only [Act.put, List.setIfInBounds_toArray, List.set_cons_zero, List.set_cons_succ, i64_w, i32_w]; rfl }
                refine take_ (i := 6) (N := some 80) (v := ?_) (a' := ?_) #[true, true, true, true, true, true, true, false, false, false, false] rfl rfl (take_ofW HT_.out HW_.out (by kernel_rfl)) (fun _ _ _ h => h) (Or.inl ⟨by rfl, ?_⟩) hHeld ?_ ?_; rotate_left; { rintro w' ⟨s0, s1, s2, s3, s4, s5, s6, s7, s8, s9⟩; go_simp; with_reducible rfl }; rotate_left; { simp only [Act.put, List.setIfInBounds_toArray, List.set_cons_zero, List.set_cons_succ, i64_w, i32_w]; rfl }
                refine pure_ (i := 7) (N := some 81) (v := ?_) (a' := ?_) #[true, true, true, true, true, true, true, true, false, false, false] rfl rfl (any_of HT_.out (by kernel_rfl)) (fun _ _ _ h => h) (Or.inl ⟨by rfl, ?_⟩) ?_ ?_; rotate_left; { intro w'; go_simp; with_reducible rfl }; rotate_left; { simp only [Act.put, List.setIfInBounds_toArray, List.set_cons_zero, List.set_cons_succ, i64_w, i32_w]; rfl }
                refine take_ (i := 8) (N := some 82) (v := ?_) (a' := ?_) #[true, true, true, true, true, true, true, true, true, false, false] rfl rfl (take_ofW HT_.out HW_.out (by kernel_rfl)) (fun _ _ _ h => h) (Or.inl ⟨by rfl, ?_⟩) hHeld ?_ ?_; rotate_left; { rintro w' ⟨s0, s1, s2, s3, s4, s5, s6, s7, s8, s9⟩; go_simp; with_reducible rfl }; rotate_left; { simp only [Act.put, List.setIfInBounds_toArray, List.set_cons_zero, List.set_cons_succ, i64_w, i32_w]; rfl }
                refine one_ (i := 9) (N := some 11) #[true, true, true, true, true, true, true, true, true, true, false] rfl rfl (one_of HT_.out (by kernel_rfl)) (by decide) (fun K hK => ?_)
                refine box_step ?hg (N := 11) ?hd (cs := #[.int .i64 0, .int .i64 0, .int .i64 0, .slice none 0 0]) (t := 33) ?hr ?_; (case hd => rfl); (case hg => rfl); (case hr => first | (go_simp; done) | (go_simp; rfl))
                intro gb108 hg w47 hbox hb
                have n0_ := Aside0.mk (blk_below (g := gb101) (o := .cells #[.slice (some ad102) l0_0.length c0_0] 24 (0, 0)) (go_k BK101.out) hb)
                have n1_ := Aside0.mk (blk_below (g := gb103) (o := .cells #[.int .i64 ((rd_T33 l0_0 a1).f0), .int .i64 ((rd_T33 l0_0 a1).f1), .int .i64 ((rd_T33 l0_0 a1).f2), .slice (some ad106) ((rd_T33 l0_0 a1).f3).length c102_3] 33 (0, 0)) (go_k BK103.out) hb)
                have n2_ := Aside0.mk (below_step (go_b2 HB.out GE101.out GE103.out) hb)
                have n3_ := Aside0.mk (hbox)
                have n4_ := Aside0.mk ((by rw [hg]; exact (below_size (go_b2 HB.out GE101.out GE103.out)) : w.heap.size ≤ gb108))
                have n5_ := Aside0.mk ((by rw [hg]; exact (below_size (go_b2 HB.out GE101.out GE103.out)) : w.heap.size ≤ gb108))
                have n6_ := Aside0.mk ((by rw [hg]; exact Nat.ne_of_lt (blk_lt (g := gb101) (o := .cells #[.slice (some ad102) l0_0.length c0_0] 24 (0, 0)) (go_k BK101.out)) : gb101 ≠ gb108))
                have n7_ := Aside0.mk ((by rw [hg]; exact Nat.ne_of_gt (blk_lt (g := gb101) (o := .cells #[.slice (some ad102) l0_0.length c0_0] 24 (0, 0)) (go_k BK101.out)) : gb108 ≠ gb101))
                have n8_ := Aside0.mk ((by rw [hg]; exact Nat.ne_of_lt (blk_lt (g := gb103) (o := .cells #[.int .i64 ((rd_T33 l0_0 a1).f0), .int .i64 ((rd_T33 l0_0 a1).f1), .int .i64 ((rd_T33 l0_0 a1).f2), .slice (some ad106) ((rd_T33 l0_0 a1).f3).length c102_3] 33 (0, 0)) (go_k BK103.out)) : gb103 ≠ gb108))
                have n9_ := Aside0.mk ((by rw [hg]; exact Nat.ne_of_gt (blk_lt (g := gb103) (o := .cells #[.int .i64 ((rd_T33 l0_0 a1).f0), .int .i64 ((rd_T33 l0_0 a1).f1), .int .i64 ((rd_T33 l0_0 a1).f2), .slice (some ad106) ((rd_T33 l0_0 a1).f3).length c102_3] 33 (0, 0)) (go_k BK103.out)) : gb108 ≠ gb103))
                clear BK101
                clear BK103
                clear HB
                have BK101 := n0_
                have BK103 := n1_
                have HB := n2_
                have BK108 := n3_
                have GW108 := n4_
                have GE108 := n5_
                have NB101_108 := n6_
                have NB108_101 := n7_
                have NB103_108 := n8_
                have NB108_103 := n9_
                clear n0_ n1_ n2_ n3_ n4_ n5_ n6_ n7_ n8_ n9_
                clear hb hbox hg
                refine hK.out _ _ ⟨(blk_cell BK101.out 0).trans rfl, (blk_cell BK103.out 0).trans rfl, (blk_cell BK103.out 1).trans rfl, (blk_cell BK103.out 2).trans rfl, (blk_cell BK103.out 3).trans rfl, (cell_b HB.out hw106_0), (cell_b HB.out hw107_0), (cell_b HB.out hw107_1), (cell_b HB.out hw107_2), (cell_b HB.out hw107_3)⟩ (fun hHeld => ?_)
                clear hK K
                refine norm_ (a' := ?_) ?_ ?_; rotate_left; { show Act.put _ (some 11) _ = _; simp only [Act.put, List.setIfInBounds_toArray, List.set_cons_zero, List.set_cons_succ, i64_w, i32_w]; rfl }
                refine one_ (i := 10) (N := none) #[true, true, true, true, true, true, true, true, true, true, true] rfl rfl (one_of HT_.out (by kernel_rfl)) (by decide) (fun K hK => ?_)
                have hs48 : w47.cell? ⟨gb108, 0, none⟩ = some (.int .i64 0) := (blk_cell BK108.out 0).trans rfl
                have hfs48 := blk_frozen BK108.out 0
                have hns48_0 := NB101_108.out
                have hns48_1 := NB103_108.out
                have hms48_0 := NB108_101.out
                have hms48_1 := NB108_103.out
                have hs49 : w47.cell? ⟨gb108, 1, none⟩ = some (.int .i64 0) := (blk_cell BK108.out 1).trans rfl
                have hfs49 := blk_frozen BK108.out 1
                have hns49_0 := NB101_108.out
                have hns49_1 := NB103_108.out
                have hms49_0 := NB108_101.out
                have hms49_1 := NB108_103.out
                have hs50 : w47.cell? ⟨gb108, 2, none⟩ = some (.int .i64 0) := (blk_cell BK108.out 2).trans rfl
                have hfs50 := blk_frozen BK108.out 2
                have hns50_0 := NB101_108.out
                have hns50_1 := NB103_108.out
                have hms50_0 := NB108_101.out
                have hms50_1 := NB108_103.out
                have hs51 : w47.cell? ⟨gb108, 3, none⟩ = some (.slice none 0 0) := (blk_cell BK108.out 3).trans rfl
                have hfs51 := blk_frozen BK108.out 3
                have hns51_0 := NB101_108.out
                have hns51_1 := NB103_108.out
                have hms51_0 := NB108_101.out
                have hms51_1 := NB108_103.out
                refine skip_ (w1 := ?_) (by rfl) rfl ?_ ?_; rotate_left; { go_simp; rfl }
                refine hK.out _ _ ⟨((cell_far (p := ⟨gb108, _, none⟩) NB101_108.out _).trans (((cell_far (p := ⟨gb108, _, none⟩) NB101_108.out _).trans (((cell_far (p := ⟨gb108, _, none⟩) NB101_108.out _).trans (((cell_far (p := ⟨gb108, _, none⟩) NB101_108.out _).trans (hHeld.1)))))))), ((cell_far (p := ⟨gb108, _, none⟩) NB103_108.out _).trans (((cell_far (p := ⟨gb108, _, none⟩) NB103_108.out _).trans (((cell_far (p := ⟨gb108, _, none⟩) NB103_108.out _).trans (((cell_far (p := ⟨gb108, _, none⟩) NB103_108.out _).trans (hHeld.2.1)))))))), ((cell_far (p := ⟨gb108, _, none⟩) NB103_108.out _).trans (((cell_far (p := ⟨gb108, _, none⟩) NB103_108.out _).trans (((cell_far (p := ⟨gb108, _, none⟩) NB103_108.out _).trans (((cell_far (p := ⟨gb108, _, none⟩) NB103_108.out _).trans (hHeld.2.2.1)))))))), ((cell_far (p := ⟨gb108, _, none⟩) NB103_108.out _).trans (((cell_far (p := ⟨gb108, _, none⟩) NB103_108.out _).trans (((cell_far (p := ⟨gb108, _, none⟩) NB103_108.out _).trans (((cell_far (p := ⟨gb108, _, none⟩) NB103_108.out _).trans (hHeld.2.2.2.1)))))))), ((cell_far (p := ⟨gb108, _, none⟩) NB103_108.out _).trans (((cell_far (p := ⟨gb108, _, none⟩) NB103_108.out _).trans (((cell_far (p := ⟨gb108, _, none⟩) NB103_108.out _).trans (((cell_far (p := ⟨gb108, _, none⟩) NB103_108.out _).trans (hHeld.2.2.2.2.1)))))))), ((far_c hw106_0 GW108.out).trans (((far_c hw106_0 GW108.out).trans (((far_c hw106_0 GW108.out).trans (((far_c hw106_0 GW108.out).trans (hHeld.2.2.2.2.2.1)))))))), ((far_c hw107_0 GW108.out).trans (((far_c hw107_0 GW108.out).trans (((far_c hw107_0 GW108.out).trans (((far_c hw107_0 GW108.out).trans (hHeld.2.2.2.2.2.2.1)))))))), ((far_c hw107_1 GW108.out).trans (((far_c hw107_1 GW108.out).trans (((far_c hw107_1 GW108.out).trans (((far_c hw107_1 GW108.out).trans (hHeld.2.2.2.2.2.2.2.1)))))))), ((far_c hw107_2 GW108.out).trans (((far_c hw107_2 GW108.out).trans (((far_c hw107_2 GW108.out).trans (((far_c hw107_2 GW108.out).trans (hHeld.2.2.2.2.2.2.2.2.1)))))))), ((far_c hw107_3 GW108.out).trans (((far_c hw107_3 GW108.out).trans (((far_c hw107_3 GW108.out).trans (((far_c hw107_3 GW108.out).trans (hHeld.2.2.2.2.2.2.2.2.2))))))))⟩ (fun hHeld => ?_)
                clear hK K
                refine done_ (done_of HT_.out (by kernel_rfl)) ?_
                have hnb52 := NB108_101.out
                have hnc52 := NB101_108.out
                have hnb53 := NB108_103.out
                have hnc53 := NB103_108.out
                have hcz54_0 : w47.cell? ⟨gb108, 0, none⟩ = some (.int .i64 0) := (blk_cell BK108.out 0).trans rfl
                have hcz54_1 : w47.cell? ⟨gb108, 1, none⟩ = some (.int .i64 0) := (blk_cell BK108.out 1).trans rfl
                have hcz54_2 : w47.cell? ⟨gb108, 2, none⟩ = some (.int .i64 0) := (blk_cell BK108.out 2).trans rfl
                have hcz54_3 : w47.cell? ⟨gb108, 3, none⟩ = some (.slice none 0 0) := (blk_cell BK108.out 3).trans rfl
                have hfz54_0 := blk_frozen BK108.out 0
                have hfz54_1 := blk_frozen BK108.out 1
                have hfz54_2 := blk_frozen BK108.out 2
                have hfz54_3 := blk_frozen BK108.out 3
                try go_wp2
                go_ret
                exact ⟨by first | rfl | (simp [*, errW_none, errW_some, erT_no, erV_no, erT_at, erV_at] <;> rfl), by repeat (first | (with_reducible first | exact HB.out | apply below_alloc | apply pw_below_drewN | apply below_drew1 | refine below_set ?_ GE101.out | refine below_set ?_ GE103.out | refine below_set ?_ GE108.out) | exact HB.out)⟩
               ·rw [if_neg c43] at H
                have c43b0 : decide (((rd_T33 l0_0 (rd ((rd_T33 l0_0 a1).f3) x10_3)).f1) < x9_3) = false := decide_eq_false c43
                clear c43
                have H' := Aside0.mk H
                clear H
                have hnb55 := NB103_101.out
                have hnc55 := NB101_103.out
                have hcz56_0 : wr.cell? ⟨gb103, 0, none⟩ = some (.int .i64 ((rd_T33 l0_0 a1).f0)) := (blk_cell BK103.out 0).trans rfl
                have hcz56_1 : wr.cell? ⟨gb103, 1, none⟩ = some (.int .i64 ((rd_T33 l0_0 a1).f1)) := (blk_cell BK103.out 1).trans rfl
                have hcz56_2 : wr.cell? ⟨gb103, 2, none⟩ = some (.int .i64 ((rd_T33 l0_0 a1).f2)) := (blk_cell BK103.out 2).trans rfl
                have hcz56_3 : wr.cell? ⟨gb103, 3, none⟩ = some (.slice A102_3 ((rd_T33 l0_0 a1).f3).length c102_3) := (blk_cell BK103.out 3).trans rfl
                have hfz56_0 := blk_frozen BK103.out 0
                have hfz56_1 := blk_frozen BK103.out 1
                have hfz56_2 := blk_frozen BK103.out 2
                have hfz56_3 := blk_frozen BK103.out 3
                try go_wp2
                have n0_ := Aside0.mk (blk_drew BK101.out)
                have n1_ := Aside0.mk (blk_drew BK103.out)
                have n2_ := Aside0.mk (below_drew1 HB.out)
                clear BK101
                clear BK103
                clear HB
                have BK101 := n0_
                have BK103 := n1_
                have HB := n2_
                clear n0_ n1_ n2_
                have p106 : 0 ≤ (x10_3 : Int) := of_dec
                have q106 : x10_3 < (((rd_T33 l0_0 a1).f3).length : Int) := of_dec
                obtain ⟨ad106, e106, hx106_0⟩ := Kd.at_int HR102_3.out x10_3 p106 q106
                have hw106_0 := hx106_0
                cases e106
                replace hx106_0 := cell_b HB.out hx106_0
                replace p106 := eq_true p106
                replace q106 := eq_true q106
                have p107 : 0 ≤ ((rd ((rd_T33 l0_0 a1).f3) x10_3) : Int) := of_dec
                have q107 : (rd ((rd_T33 l0_0 a1).f3) x10_3) < (l0_0.length : Int) := of_dec
                obtain ⟨ad107, A107_3, c107_3, e107, hx107_0, hx107_1, hx107_2, hx107_3, hl107_3, hi107_3⟩ := at_T33 HR0_0.out (rd ((rd_T33 l0_0 a1).f3) x10_3) p107 q107
                have hw107_3 := hx107_3
                have hw107_2 := hx107_2
                have hw107_1 := hx107_1
                have hw107_0 := hx107_0
                obtain rfl : ad102 = ad107 := (by injection e107)
                replace hx107_0 := cell_b HB.out hx107_0
                replace hx107_1 := cell_b HB.out hx107_1
                replace hx107_2 := cell_b HB.out hx107_2
                replace hx107_3 := cell_b HB.out hx107_3
                have HR107_3 := Aside0.mk hi107_3
                have HC107_3 := Aside0.mk hl107_3
                clear hi107_3 hl107_3
                replace p107 := eq_true p107
                replace q107 := eq_true q107
                refine start_ (n := 11) (S := fun w' => w'.cell? ⟨gb101, 0, none⟩ = some (.slice (some ad102) l0_0.length c0_0) ∧ w'.cell? ⟨gb103, 0, none⟩ = some (.int .i64 ((rd_T33 l0_0 a1).f0)) ∧ w'.cell? ⟨gb103, 1, none⟩ = some (.int .i64 ((rd_T33 l0_0 a1).f1)) ∧ w'.cell? ⟨gb103, 2, none⟩ = some (.int .i64 ((rd_T33 l0_0 a1).f2)) ∧ w'.cell? ⟨gb103, 3, none⟩ = some (.slice (some ad106) ((rd_T33 l0_0 a1).f3).length c102_3) ∧ w'.cell? (ad106.add (x10_3).toNat) = some (.int .i64 (rd ((rd_T33 l0_0 a1).f3) x10_3)) ∧ w'.cell? (ad102.add (((rd ((rd_T33 l0_0 a1).f3) x10_3)).toNat * 4)) = some (.int .i64 ((rd_T33 l0_0 (rd ((rd_T33 l0_0 a1).f3) x10_3)).f0)) ∧ w'.cell? ⟨(ad102.add (((rd ((rd_T33 l0_0 a1).f3) x10_3)).toNat * 4)).block, (ad102.add (((rd ((rd_T33 l0_0 a1).f3) x10_3)).toNat * 4)).off + 1, none⟩ = some (.int .i64 ((rd_T33 l0_0 (rd ((rd_T33 l0_0 a1).f3) x10_3)).f1)) ∧ w'.cell? ⟨(ad102.add (((rd ((rd_T33 l0_0 a1).f3) x10_3)).toNat * 4)).block, (ad102.add (((rd ((rd_T33 l0_0 a1).f3) x10_3)).toNat * 4)).off + 2, none⟩ = some (.int .i64 ((rd_T33 l0_0 (rd ((rd_T33 l0_0 a1).f3) x10_3)).f2)) ∧ w'.cell? ⟨(ad102.add (((rd ((rd_T33 l0_0 a1).f3) x10_3)).toNat * 4)).block, (ad102.add (((rd ((rd_T33 l0_0 a1).f3) x10_3)).toNat * 4)).off + 3, none⟩ = some (.slice A107_3 ((rd_T33 l0_0 (rd ((rd_T33 l0_0 a1).f3) x10_3)).f3).length c107_3)) (ds := []) #[false, false, false, false, false, false, false, false, false, false, false] (by kernel_rfl) rfl rfl ⟨(blk_cell BK101.out 0).trans rfl, (blk_cell BK103.out 0).trans rfl, (blk_cell BK103.out 1).trans rfl, (blk_cell BK103.out 2).trans rfl, (blk_cell BK103.out 3).trans rfl, (cell_b HB.out hw106_0), (cell_b HB.out hw107_0), (cell_b HB.out hw107_1), (cell_b HB.out hw107_2), (cell_b HB.out hw107_3)⟩ (fun hHeld => ?_); refine with_tabW cavilref13_one.tab13 cavilref13_one.bits13 (fun HT_ HW_ => ?_)
                generalize wr.drew = w57 at BK101 BK103 HB HR107_3 hx106_0 hx107_0 hx107_1 hx107_2 hx107_3 hHeld ⊢
                refine pure_ (i := 0) (N := some 74) (v := ?_) (a' := ?_) #[true, false, false, false, false, false, false, false, false, false, false] rfl rfl (any_of HT_.out (by kernel_rfl)) (fun _ _ _ h => h) (Or.inl ⟨by rfl, ?_⟩) ?_ ?_; rotate_left; { intro w'; go_simp; with_reducible rfl }; rotate_left; { simp only [Act.put, List.setIfInBounds_toArray, List.set_cons_zero, List.set_cons_succ, i64_w, i32_w]; rfl }
                refine pure_ (i := 2) (N := some 76) (v := ?_) (a' := ?_) #[true, false, true, false, false, false, false, false, false, false, false] rfl rfl (any_of HT_.out (by kernel_rfl)) (fun _ _ _ h => h) (Or.inl ⟨by rfl, ?_⟩) ?_ ?_; rotate_left; { intro w'; go_simp; with_reducible rfl }; rotate_left; { simp only [Act.put, List.setIfInBounds_toArray, List.set_cons_zero, List.set_cons_succ, i64_w, i32_w]; rfl }
                refine pure_ (i := 4) (N := some 78) (v := ?_) (a' := ?_) #[true, false, true, false, true, false, false, false, false, false, false] rfl rfl (any_of HT_.out (by kernel_rfl)) (fun _ _ _ h => h) (Or.inl ⟨by rfl, ?_⟩) ?_ ?_; rotate_left; { intro w'; go_simp; with_reducible rfl }; rotate_left; { simp only [Act.put, List.setIfInBounds_toArray, List.set_cons_zero, List.set_cons_succ, i64_w, i32_w]; rfl }
                refine take_ (i := 1) (N := some 75) (v := ?_) (a' := ?_) #[true, true, true, false, true, false, false, false, false, false, false] rfl rfl (take_ofW HT_.out HW_.out (by kernel_rfl)) (fun _ _ _ h => h) (Or.inl ⟨by rfl, ?_⟩) hHeld ?_ ?_; rotate_left; { rintro w' ⟨s0, s1, s2, s3, s4, s5, s6, s7, s8, s9⟩; go_simp; with_reducible rfl }; rotate_left; { simp only [Act.put, List.setIfInBounds_toArray, List.set_cons_zero, List.set_cons_succ, i64_w, i32_w]; rfl }
                refine take_ (i := 3) (N := some 77) (v := ?_) (a' := ?_) #[true, true, true, true, true, false, false, false, false, false, false] rfl rfl (take_ofW HT_.out HW_.out (by kernel_rfl)) (fun _ _ _ h => h) (Or.inl ⟨by rfl, ?_⟩) hHeld ?_ ?_; rotate_left; { rintro w' ⟨s0, s1, s2, s3, s4, s5, s6, s7, s8, s9⟩; go_simp; with_reducible rfl }; rotate_left; { simp only [Act.put, List.setIfInBounds_toArray, List.set_cons_zero, List.set_cons_succ, i64_w, i32_w]; rfl }
                refine pure_ (i := 5) (N := some 79) (v := ?_) (a' := ?_) #[true, true, true, true, true, true, false, false, false, false, false] rfl rfl (any_of HT_.out (by kernel_rfl)) (fun _ _ _ h => h) (Or.inl ⟨by rfl, ?_⟩) ?_ ?_; rotate_left; { intro w'; go_simp; with_reducible rfl }; rotate_left; { simp only [Act.put, List.setIfInBounds_toArray, List.set_cons_zero, List.set_cons_succ, i64_w, i32_w]; rfl }
                refine take_ (i := 6) (N := some 80) (v := ?_) (a' := ?_) #[true, true, true, true, true, true, true, false, false, false, false] rfl rfl (take_ofW HT_.out HW_.out (by kernel_rfl)) (fun _ _ _ h => h) (Or.inl ⟨by rfl, ?_⟩) hHeld ?_ ?_; rotate_left; { rintro w' ⟨s0, s1, s2, s3, s4, s5, s6, s7, s8, s9⟩; go_simp; with_reducible rfl }; rotate_left; { simp only [Act.put, List.setIfInBounds_toArray, List.set_cons_zero, List.set_cons_succ, i64_w, i32_w]; rfl }
                refine pure_ (i := 7) (N := some 81) (v := ?_) (a' := ?_) #[true, true, true, true, true, true, true, true, false, false, false] rfl rfl (any_of HT_.out (by kernel_rfl)) (fun _ _ _ h => h) (Or.inl ⟨by rfl, ?_⟩) ?_ ?_; rotate_left; { intro w'; go_simp; with_reducible rfl }; rotate_left; { simp only [Act.put, List.setIfInBounds_toArray, List.set_cons_zero, List.set_cons_succ, i64_w, i32_w]; rfl }
                refine take_ (i := 8) (N := some 82) (v := ?_) (a' := ?_) #[true, true, true, true, true, true, true, true, true, false, false] rfl rfl (take_ofW HT_.out HW_.out (by kernel_rfl)) (fun _ _ _ h => h) (Or.inl ⟨by rfl, ?_⟩) hHeld ?_ ?_; rotate_left; { rintro w' ⟨s0, s1, s2, s3, s4, s5, s6, s7, s8, s9⟩; go_simp; with_reducible rfl }; rotate_left; { simp only [Act.put, List.setIfInBounds_toArray, List.set_cons_zero, List.set_cons_succ, i64_w, i32_w]; rfl }
                refine one_ (i := 9) (N := some 11) #[true, true, true, true, true, true, true, true, true, true, false] rfl rfl (one_of HT_.out (by kernel_rfl)) (by decide) (fun K hK => ?_)
                refine box_step ?hg (N := 11) ?hd (cs := #[.int .i64 0, .int .i64 0, .int .i64 0, .slice none 0 0]) (t := 33) ?hr ?_; (case hd => rfl); (case hg => rfl); (case hr => first | (go_simp; done) | (go_simp; rfl))
                intro gb108 hg w58 hbox hb
                have n0_ := Aside0.mk (blk_below (g := gb101) (o := .cells #[.slice (some ad102) l0_0.length c0_0] 24 (0, 0)) (go_k BK101.out) hb)
                have n1_ := Aside0.mk (blk_below (g := gb103) (o := .cells #[.int .i64 ((rd_T33 l0_0 a1).f0), .int .i64 ((rd_T33 l0_0 a1).f1), .int .i64 ((rd_T33 l0_0 a1).f2), .slice (some ad106) ((rd_T33 l0_0 a1).f3).length c102_3] 33 (0, 0)) (go_k BK103.out) hb)
                have n2_ := Aside0.mk (below_step (go_b2 HB.out GE101.out GE103.out) hb)
                have n3_ := Aside0.mk (hbox)
                have n4_ := Aside0.mk ((by rw [hg]; exact (below_size (go_b2 HB.out GE101.out GE103.out)) : w.heap.size ≤ gb108))
                have n5_ := Aside0.mk ((by rw [hg]; exact (below_size (go_b2 HB.out GE101.out GE103.out)) : w.heap.size ≤ gb108))
                have n6_ := Aside0.mk ((by rw [hg]; exact Nat.ne_of_lt (blk_lt (g := gb101) (o := .cells #[.slice (some ad102) l0_0.length c0_0] 24 (0, 0)) (go_k BK101.out)) : gb101 ≠ gb108))
                have n7_ := Aside0.mk ((by rw [hg]; exact Nat.ne_of_gt (blk_lt (g := gb101) (o := .cells #[.slice (some ad102) l0_0.length c0_0] 24 (0, 0)) (go_k BK101.out)) : gb108 ≠ gb101))
                have n8_ := Aside0.mk ((by rw [hg]; exact Nat.ne_of_lt (blk_lt (g := gb103) (o := .cells #[.int .i64 ((rd_T33 l0_0 a1).f0), .int .i64 ((rd_T33 l0_0 a1).f1), .int .i64 ((rd_T33 l0_0 a1).f2), .slice (some ad106) ((rd_T33 l0_0 a1).f3).length c102_3] 33 (0, 0)) (go_k BK103.out)) : gb103 ≠ gb108))
                have n9_ := Aside0.mk ((by rw [hg]; exact Nat.ne_of_gt (blk_lt (g := gb103) (o := .cells #[.int .i64 ((rd_T33 l0_0 a1).f0), .int .i64 ((rd_T33 l0_0 a1).f1), .int .i64 ((rd_T33 l0_0 a1).f2), .slice (some ad106) ((rd_T33 l0_0 a1).f3).length c102_3] 33 (0, 0)) (go_k BK103.out)) : gb108 ≠ gb103))
                clear BK101
                clear BK103
                clear HB
                have BK101 := n0_
                have BK103 := n1_
                have HB := n2_
                have BK108 := n3_
                have GW108 := n4_
                have GE108 := n5_
                have NB101_108 := n6_
                have NB108_101 := n7_
                have NB103_108 := n8_
                have NB108_103 := n9_
                clear n0_ n1_ n2_ n3_ n4_ n5_ n6_ n7_ n8_ n9_
                clear hb hbox hg
                refine hK.out _ _ ⟨(blk_cell BK101.out 0).trans rfl, (blk_cell BK103.out 0).trans rfl, (blk_cell BK103.out 1).trans rfl, (blk_cell BK103.out 2).trans rfl, (blk_cell BK103.out 3).trans rfl, (cell_b HB.out hw106_0), (cell_b HB.out hw107_0), (cell_b HB.out hw107_1), (cell_b HB.out hw107_2), (cell_b HB.out hw107_3)⟩ (fun hHeld => ?_)
                clear hK K
                refine norm_ (a' := ?_) ?_ ?_; rotate_left; { show Act.put _ (some 11) _ = _; simp only [Act.put, List.setIfInBounds_toArray, List.set_cons_zero, List.set_cons_succ, i64_w, i32_w]; rfl }
                refine one_ (i := 10) (N := none) #[true, true, true, true, true, true, true, true, true, true, true] rfl rfl (one_of HT_.out (by kernel_rfl)) (by decide) (fun K hK => ?_)
                have hs59 : w58.cell? ⟨gb108, 0, none⟩ = some (.int .i64 0) := (blk_cell BK108.out 0).trans rfl
                have hfs59 := blk_frozen BK108.out 0
                have hns59_0 := NB101_108.out
                have hns59_1 := NB103_108.out
                have hms59_0 := NB108_101.out
                have hms59_1 := NB108_103.out
                have hs60 : w58.cell? ⟨gb108, 1, none⟩ = some (.int .i64 0) := (blk_cell BK108.out 1).trans rfl
                have hfs60 := blk_frozen BK108.out 1
                have hns60_0 := NB101_108.out
                have hns60_1 := NB103_108.out
                have hms60_0 := NB108_101.out
                have hms60_1 := NB108_103.out
                have hs61 : w58.cell? ⟨gb108, 2, none⟩ = some (.int .i64 0) := (blk_cell BK108.out 2).trans rfl
                have hfs61 := blk_frozen BK108.out 2
                have hns61_0 := NB101_108.out
                have hns61_1 := NB103_108.out
                have hms61_0 := NB108_101.out
                have hms61_1 := NB108_103.out
                have hs62 : w58.cell? ⟨gb108, 3, none⟩ = some (.slice none 0 0) := (blk_cell BK108.out 3).trans rfl
                have hfs62 := blk_frozen BK108.out 3
                have hns62_0 := NB101_108.out
                have hns62_1 := NB103_108.out
                have hms62_0 := NB108_101.out
                have hms62_1 := NB108_103.out
                refine skip_ (w1 := ?_) (by rfl) rfl ?_ ?_; rotate_left; { go_simp; rfl }
                refine hK.out _ _ ⟨((cell_far (p := ⟨gb108, _, none⟩) NB101_108.out _).trans (((cell_far (p := ⟨gb108, _, none⟩) NB101_108.out _).trans (((cell_far (p := ⟨gb108, _, none⟩) NB101_108.out _).trans (((cell_far (p := ⟨gb108, _, none⟩) NB101_108.out _).trans (hHeld.1)))))))), ((cell_far (p := ⟨gb108, _, none⟩) NB103_108.out _).trans (((cell_far (p := ⟨gb108, _, none⟩) NB103_108.out _).trans (((cell_far (p := ⟨gb108, _, none⟩) NB103_108.out _).trans (((cell_far (p := ⟨gb108, _, none⟩) NB103_108.out _).trans (hHeld.2.1)))))))), ((cell_far (p := ⟨gb108, _, none⟩) NB103_108.out _).trans (((cell_far (p := ⟨gb108, _, none⟩) NB103_108.out _).trans (((cell_far (p := ⟨gb108, _, none⟩) NB103_108.out _).trans (((cell_far (p := ⟨gb108, _, none⟩) NB103_108.out _).trans (hHeld.2.2.1)))))))), ((cell_far (p := ⟨gb108, _, none⟩) NB103_108.out _).trans (((cell_far (p := ⟨gb108, _, none⟩) NB103_108.out _).trans (((cell_far (p := ⟨gb108, _, none⟩) NB103_108.out _).trans (((cell_far (p := ⟨gb108, _, none⟩) NB103_108.out _).trans (hHeld.2.2.2.1)))))))), ((cell_far (p := ⟨gb108, _, none⟩) NB103_108.out _).trans (((cell_far (p := ⟨gb108, _, none⟩) NB103_108.out _).trans (((cell_far (p := ⟨gb108, _, none⟩) NB103_108.out _).trans (((cell_far (p := ⟨gb108, _, none⟩) NB103_108.out _).trans (hHeld.2.2.2.2.1)))))))), ((far_c hw106_0 GW108.out).trans (((far_c hw106_0 GW108.out).trans (((far_c hw106_0 GW108.out).trans (((far_c hw106_0 GW108.out).trans (hHeld.2.2.2.2.2.1)))))))), ((far_c hw107_0 GW108.out).trans (((far_c hw107_0 GW108.out).trans (((far_c hw107_0 GW108.out).trans (((far_c hw107_0 GW108.out).trans (hHeld.2.2.2.2.2.2.1)))))))), ((far_c hw107_1 GW108.out).trans (((far_c hw107_1 GW108.out).trans (((far_c hw107_1 GW108.out).trans (((far_c hw107_1 GW108.out).trans (hHeld.2.2.2.2.2.2.2.1)))))))), ((far_c hw107_2 GW108.out).trans (((far_c hw107_2 GW108.out).trans (((far_c hw107_2 GW108.out).trans (((far_c hw107_2 GW108.out).trans (hHeld.2.2.2.2.2.2.2.2.1)))))))), ((far_c hw107_3 GW108.out).trans (((far_c hw107_3 GW108.out).trans (((far_c hw107_3 GW108.out).trans (((far_c hw107_3 GW108.out).trans (hHeld.2.2.2.2.2.2.2.2.2))))))))⟩ (fun hHeld => ?_)
                clear hK K
                refine done_ (done_of HT_.out (by kernel_rfl)) ?_
                have hnb63 := NB108_101.out
                have hnc63 := NB101_108.out
                have hnb64 := NB108_103.out
                have hnc64 := NB103_108.out
                have hcz65_0 : w58.cell? ⟨gb108, 0, none⟩ = some (.int .i64 0) := (blk_cell BK108.out 0).trans rfl
                have hcz65_1 : w58.cell? ⟨gb108, 1, none⟩ = some (.int .i64 0) := (blk_cell BK108.out 1).trans rfl
                have hcz65_2 : w58.cell? ⟨gb108, 2, none⟩ = some (.int .i64 0) := (blk_cell BK108.out 2).trans rfl
                have hcz65_3 : w58.cell? ⟨gb108, 3, none⟩ = some (.slice none 0 0) := (blk_cell BK108.out 3).trans rfl
                have hfz65_0 := blk_frozen BK108.out 0
                have hfz65_1 := blk_frozen BK108.out 1
                have hfz65_2 := blk_frozen BK108.out 2
                have hfz65_3 := blk_frozen BK108.out 3
                try go_wp2
                go_roundg k3
                case measure => have := HJ5.out; have := HK2.out; have := HK3.out; omega
                case rel => exact ⟨((rd_T33 l0_0 (rd ((rd_T33 l0_0 a1).f3) x10_3)).f2), (wrap64 (x10_3 + 1)), (by first | rfl | (simp; done) | (simp [*]; done)), (by first | rfl | (simp; done) | (simp [*]; done)), H', ⟨by have := HJ5.out; have := HK2.out; have := HK3.out; omega⟩, ⟨by (with_reducible repeat (first | refine blk_drewN ?_ _ | refine blk_drew ?_ | refine blk_alloc ?_ _)); refine blk_far ?_ NB101_108.out _; refine blk_far ?_ NB101_108.out _; refine blk_far ?_ NB101_108.out _; refine blk_far ?_ NB101_108.out _; (with_reducible repeat (first | refine blk_drewN ?_ _ | refine blk_drew ?_ | refine blk_alloc ?_ _)); exact BK101.out⟩, ⟨by (with_reducible repeat (first | refine blk_drewN ?_ _ | refine blk_drew ?_ | refine blk_alloc ?_ _)); refine blk_far ?_ NB103_108.out _; refine blk_far ?_ NB103_108.out _; refine blk_far ?_ NB103_108.out _; refine blk_far ?_ NB103_108.out _; (with_reducible repeat (first | refine blk_drewN ?_ _ | refine blk_drew ?_ | refine blk_alloc ?_ _)); exact BK103.out⟩, ⟨by repeat (first | (with_reducible first | exact HB.out | apply below_alloc | apply pw_below_drewN | apply below_drew1 | refine below_set ?_ GE101.out | refine below_set ?_ GE103.out | refine below_set ?_ GE108.out) | exact HB.out)⟩⟩
              ·rw [if_neg c42] at H
               exact absurd H (by simp)
             ·rw [if_neg c41] at H
              exact absurd H (by simp)
            ·rw [if_neg c40] at H
             exact absurd H (by simp)
           ·rw [if_neg c39] at H
            have c39b0 : decide (x10_3 < (((rd_T33 l0_0 a1).f3).length : Int)) = false := decide_eq_false c39
            clear c39
            obtain rfl := Option.some.inj H
            have hnb66 := NB103_101.out
            have hnc66 := NB101_103.out
            have hcz67_0 : wr.cell? ⟨gb103, 0, none⟩ = some (.int .i64 ((rd_T33 l0_0 a1).f0)) := (blk_cell BK103.out 0).trans rfl
            have hcz67_1 : wr.cell? ⟨gb103, 1, none⟩ = some (.int .i64 ((rd_T33 l0_0 a1).f1)) := (blk_cell BK103.out 1).trans rfl
            have hcz67_2 : wr.cell? ⟨gb103, 2, none⟩ = some (.int .i64 ((rd_T33 l0_0 a1).f2)) := (blk_cell BK103.out 2).trans rfl
            have hcz67_3 : wr.cell? ⟨gb103, 3, none⟩ = some (.slice A102_3 ((rd_T33 l0_0 a1).f3).length c102_3) := (blk_cell BK103.out 3).trans rfl
            have hfz67_0 := blk_frozen BK103.out 0
            have hfz67_1 := blk_frozen BK103.out 1
            have hfz67_2 := blk_frozen BK103.out 2
            have hfz67_3 := blk_frozen BK103.out 3
            go_wp2
            go_ret
            exact ⟨by first | rfl | (simp [*, errW_none, errW_some, erT_no, erV_no, erT_at, erV_at] <;> rfl), by repeat (first | (with_reducible first | exact HB.out | apply below_alloc | apply pw_below_drewN | apply below_drew1 | refine below_set ?_ GE101.out | refine below_set ?_ GE103.out) | exact HB.out)⟩
  ·rw [if_neg c5] at H
   exact absurd H (by simp)
 ·rw [if_neg c4] at H
  exact absurd H (by simp)

end Go.Proofs.YtnpgadfoohjlnaaDoor.QV
