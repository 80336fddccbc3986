/- Where a Lean function of this text answers, the Go function of its name comes to that answer: no other condition. Written by a program of this session out of the translation; Lean checks it. -/
import Derived.Test.YtnpgadfoohjlnaaQV0
namespace Go.Proofs.Ytnpgadfoohjlnaa.QV
open Go.RowKit Go.Proofs.YtnpgadfoohjlnaaW.PrintWords Go.Proofs.YtnpgadfoohjlnaaW.PrintLast Go.Proofs.YtnpgadfoohjlnaaW.PrintMore Go.Proofs.YtnpgadfoohjlnaaW.PrintX
attribute [local go_sem] max2_int min2_int max_two min_two max_three min_three max_four min_four   -- for this text's walks alone
set_option linter.unusedVariables false
set_option linter.unusedSimpArgs false

/-! ### cavilref13_Owns: function 48 -/
mutual
def cavilref13_Owns.j0 : Nat → Int → Bool → List (S44) → Int → Int → Int → List Int → Option (Bool)
  | 0, _, _, _, _, _, _, _ => none
  | k + 1, x2, x24, x331000, x333000, x333001, x333002, x333003 => if x24 = true then (some false) else (cavilref13_Owns.l0 k x2 0 x331000 x333000 x333001 x333002 x333003)
def cavilref13_Owns.l0 : Nat → Int → Int → List (S44) → Int → Int → Int → List Int → Option (Bool)
  | 0, _, _, _, _, _, _, _ => none
  | k + 1, x2, x8, x331000, x333000, x333001, x333002, x333003 => if x8 < (x333003.length : Int) then (if 0 ≤ x8 then (if 0 ≤ (rd x333003 x8) then (if (rd x333003 x8) < (x331000.length : Int) then (if x2 ≥ ((rd_T44 x331000 (rd x333003 x8)).f1) then (if x2 < ((rd_T44 x331000 (rd x333003 x8)).f2) then (some false) else (cavilref13_Owns.l0 k x2 (wrap64 (x8 + 1)) x331000 x333000 x333001 x333002 x333003)) else (cavilref13_Owns.l0 k x2 (wrap64 (x8 + 1)) x331000 x333000 x333001 x333002 x333003)) else (none)) else (none)) else (none)) else (some true)
end
def cavilref13_Owns.f (k : Nat) (l0_0 : List (S44)) (a1 : Int) (a2 : Int) : Option (Bool) := if 0 ≤ a1 then (if a1 < (l0_0.length : Int) then (if a2 < ((rd_T44 l0_0 a1).f1) then (cavilref13_Owns.j0 k a2 true l0_0 ((rd_T44 l0_0 a1).f0) ((rd_T44 l0_0 a1).f1) ((rd_T44 l0_0 a1).f2) ((rd_T44 l0_0 a1).f3)) else (cavilref13_Owns.j0 k a2 (decide (a2 ≥ ((rd_T44 l0_0 a1).f2))) l0_0 ((rd_T44 l0_0 a1).f0) ((rd_T44 l0_0 a1).f1) ((rd_T44 l0_0 a1).f2) ((rd_T44 l0_0 a1).f3))) else (none)) else (none)
theorem cavilref13_Owns.mono_l : ∀ k, (∀ y0 y1 y2 y3 y4 y5 y6, LeO (cavilref13_Owns.j0 k y0 y1 y2 y3 y4 y5 y6) (cavilref13_Owns.j0 (k + 1) y0 y1 y2 y3 y4 y5 y6)) ∧ (∀ y0 y1 y2 y3 y4 y5 y6, LeO (cavilref13_Owns.l0 k y0 y1 y2 y3 y4 y5 y6) (cavilref13_Owns.l0 (k + 1) y0 y1 y2 y3 y4 y5 y6))
  | 0 => ⟨fun _ _ _ _ _ _ _ r h => by simp [cavilref13_Owns.j0] at h, fun _ _ _ _ _ _ _ r h => by simp [cavilref13_Owns.l0] at h⟩
  | k + 1 => by
    obtain ⟨ih0, ih1⟩ := cavilref13_Owns.mono_l k
    refine ⟨?_, ?_⟩
    · intro y0 y1 y2 y3 y4 y5 y6
      unfold cavilref13_Owns.j0
      repeat' first
      | (with_reducible exact ih0 _ _ _ _ _ _ _)
      | (with_reducible exact ih1 _ _ _ _ _ _ _)
      | (with_reducible exact LeO.refl _)
      | (with_reducible exact LeO.none _)
      | (with_reducible refine LeO.ite ?_ ?_)
      | (with_reducible refine LeO.bind ?_ (fun _ => ?_))
      | exact ih0 _ _ _ _ _ _ _
      | exact ih1 _ _ _ _ _ _ _
      | exact LeO.none _
      | refine LeO.ite ?_ ?_
      | refine LeO.bind ?_ (fun _ => ?_)
    · intro y0 y1 y2 y3 y4 y5 y6
      unfold cavilref13_Owns.l0
      repeat' first
      | (with_reducible exact ih0 _ _ _ _ _ _ _)
      | (with_reducible exact ih1 _ _ _ _ _ _ _)
      | (with_reducible exact LeO.refl _)
      | (with_reducible exact LeO.none _)
      | (with_reducible refine LeO.ite ?_ ?_)
      | (with_reducible refine LeO.bind ?_ (fun _ => ?_))
      | exact ih0 _ _ _ _ _ _ _
      | exact ih1 _ _ _ _ _ _ _
      | exact LeO.none _
      | refine LeO.ite ?_ ?_
      | refine LeO.bind ?_ (fun _ => ?_)
theorem cavilref13_Owns.mono : ∀ a0 a1 a2 k, LeO (cavilref13_Owns.f k a0 a1 a2) (cavilref13_Owns.f (k + 1) a0 a1 a2) := by
  intro a0 a1 a2 k
  obtain ⟨ih0, ih1⟩ := cavilref13_Owns.mono_l k
  unfold cavilref13_Owns.f
  repeat' first
      | (with_reducible exact ih0 _ _ _ _ _ _ _)
      | (with_reducible exact ih1 _ _ _ _ _ _ _)
      | (with_reducible exact LeO.refl _)
      | (with_reducible exact LeO.none _)
      | (with_reducible refine LeO.ite ?_ ?_)
      | (with_reducible refine LeO.bind ?_ (fun _ => ?_))
      | exact ih0 _ _ _ _ _ _ _
      | exact ih1 _ _ _ _ _ _ _
      | exact LeO.none _
      | refine LeO.ite ?_ ?_
      | refine LeO.bind ?_ (fun _ => ?_)
def cavilref13_Owns.T7 : Bool × List (List Nat × List Nat) := (true, [([], []), ([0], [0]), ([], []), ([2], [2]), ([], []), ([3, 4], [3, 4]), ([5], [5]), ([1, 6], [1, 6]), ([7], [7]), ([], []), ([9, 8, 0, 1, 2, 3, 4, 5, 6, 7, 8, 9], [8, 9])])
def cavilref13_Owns.B7 : List Nat := [0, 1, 0, 4, 0, 28, 60, 127, 255, 0, 1023]
theorem cavilref13_Owns.tab7 : rtab .any (opsOf Try.f48 7) = cavilref13_Owns.T7 := by kernel_rfl
theorem cavilref13_Owns.bits7 : waitsOk cavilref13_Owns.T7.2 cavilref13_Owns.B7 = true := by kernel_rfl
set_option maxHeartbeats 8000000 in
set_option maxRecDepth 100000 in
theorem cavilref13_Owns.calls (k : Nat) (A0_0 : Option Addr) (c0_0 : Nat) (l0_0 : List (S44)) (a1 : Int) (a2 : Int) (r : Bool) (w : World) (hr0_0 : Kd.C k44 w A0_0 l0_0.length l0_0) (hc0_0 : l0_0.length ≤ c0_0) (h : cavilref13_Owns.f k l0_0 a1 a2 = some r) :
    Calls Try.prog 48 #[.agg #[.slice A0_0 l0_0.length c0_0], .int .i64 a1, .int .i64 a2] w fun e w' => e = .returned (.bool r) ∧ Below w.heap.size w w' := by
  have hu26 := Try.underlying26
  have hu44 := Try.underlying44
  have HR0_0 := Aside0.mk hr0_0
  have HC0_0 := Aside0.mk hc0_0
  clear hr0_0 hc0_0
  have HB := Aside0.mk (Below.refl w.heap.size w)
  have H : (if 0 ≤ a1 then (if a1 < (l0_0.length : Int) then (if a2 < ((rd_T44 l0_0 a1).f1) then (cavilref13_Owns.j0 k a2 true l0_0 ((rd_T44 l0_0 a1).f0) ((rd_T44 l0_0 a1).f1) ((rd_T44 l0_0 a1).f2) ((rd_T44 l0_0 a1).f3)) else (cavilref13_Owns.j0 k a2 (decide (a2 ≥ ((rd_T44 l0_0 a1).f2))) l0_0 ((rd_T44 l0_0 a1).f0) ((rd_T44 l0_0 a1).f1) ((rd_T44 l0_0 a1).f2) ((rd_T44 l0_0 a1).f3))) else (none)) else (none)) = some r := h
  clear h
  by_cases c4 : 0 ≤ a1
  · rw [if_pos c4] at H
    have c4b0 : decide (0 ≤ a1) = true := decide_eq_true c4
    clear c4
    by_cases c5 : a1 < (l0_0.length : Int)
    · rw [if_pos c5] at H
      have c5b0 : decide (a1 < (l0_0.length : Int)) = true := decide_eq_true c5
      clear c5
      have HC6 := Aside0.mk H
      clear H
      go_enter Try.func48, Try.ntmps48
      go_upto_region 2 with (first | ((with_reducible refine gate_dst (N := 3) rfl ?_); refine box_event ?hg (N := 3) ?hd (cs := #[.slice A0_0 l0_0.length c0_0]) (t := 26) ?hr ?_; (case hd => rfl); (case hg => rfl); (case hr => first | (go_simp; done) | (go_simp; rfl)); intro gb330 hg w7 hbox hb; have n0_ := Aside0.mk (below_step (by repeat (first | (with_reducible first | exact HB.out | apply below_alloc | apply pw_below_drewN | apply below_drew1) | exact HB.out)) hb); have n1_ := Aside0.mk (hbox); have n2_ := Aside0.mk ((by rw [hg]; exact (below_size (by repeat (first | (with_reducible first | exact HB.out | apply below_alloc | apply pw_below_drewN | apply below_drew1) | exact HB.out))) : w.heap.size ≤ gb330)); have n3_ := n2_; clear HB; have HB := n0_; have BK330 := n1_; have GW330 := n2_; have GE330 := n3_; clear n0_ n1_ n2_ n3_; clear hb hbox hg; have hcz8_0 : w7.cell? ⟨gb330, 0, none⟩ = some (.slice A0_0 l0_0.length c0_0) := (blk_cell BK330.out 0).trans rfl; have hfz8_0 := blk_frozen BK330.out 0; have p331 : 0 ≤ (a1 : Int) := of_decide_eq_true (by first | (with_reducible assumption) | assumption); have q331 : a1 < (l0_0.length : Int) := of_decide_eq_true (by first | (with_reducible assumption) | assumption); obtain ⟨ad331, A331_3, c331_3, e331, hx331_0, hx331_1, hx331_2, hx331_3, hl331_3, hi331_3⟩ := at_T44 HR0_0.out a1 p331 q331; cases e331; replace hx331_0 := (HB.out.cell (World.block_lt_of_cell? w _ hx331_0)).trans hx331_0; replace hx331_1 := (HB.out.cell (World.block_lt_of_cell? w _ hx331_1)).trans hx331_1; replace hx331_2 := (HB.out.cell (World.block_lt_of_cell? w _ hx331_2)).trans hx331_2; replace hx331_3 := (HB.out.cell (World.block_lt_of_cell? w _ hx331_3)).trans hx331_3; have HR331_3 := Aside0.mk hi331_3; have HC331_3 := Aside0.mk hl331_3; clear hi331_3 hl331_3; replace p331 := eq_true p331; replace q331 := eq_true q331) | ((with_reducible refine gate_dst (N := 7) rfl ?_); refine box_event ?hg (N := 7) ?hd (cs := #[.int .i64 0, .int .i64 0, .int .i64 0, .slice none 0 0]) (t := 44) ?hr ?_; (case hd => rfl); (case hg => rfl); (case hr => first | (go_simp; done) | (go_simp; rfl)); intro gb332 hg w9 hbox hb; have n0_ := Aside0.mk (blk_below (g := gb330) (o := .cells #[.slice (some ad331) l0_0.length c0_0] 26 (0, 0)) (by (with_reducible repeat (first | refine blk_drewN ?_ _ | refine blk_drew ?_ | refine blk_alloc ?_ _)); exact BK330.out) hb); have n1_ := Aside0.mk (below_step (by repeat (first | (with_reducible first | exact HB.out | apply below_alloc | apply pw_below_drewN | apply below_drew1 | refine below_set ?_ GE330.out) | exact HB.out)) hb); have n2_ := Aside0.mk (hbox); have n3_ := Aside0.mk ((by rw [hg]; exact (below_size (by repeat (first | (with_reducible first | exact HB.out | apply below_alloc | apply pw_below_drewN | apply below_drew1 | refine below_set ?_ GE330.out) | exact HB.out))) : w.heap.size ≤ gb332)); have n4_ := n3_; have n5_ := Aside0.mk ((by rw [hg]; exact Nat.ne_of_lt (blk_lt (g := gb330) (o := .cells #[.slice (some ad331) l0_0.length c0_0] 26 (0, 0)) (by (with_reducible repeat (first | refine blk_drewN ?_ _ | refine blk_drew ?_ | refine blk_alloc ?_ _)); exact BK330.out)) : gb330 ≠ gb332)); have n6_ := Aside0.mk ((by rw [hg]; exact Nat.ne_of_gt (blk_lt (g := gb330) (o := .cells #[.slice (some ad331) l0_0.length c0_0] 26 (0, 0)) (by (with_reducible repeat (first | refine blk_drewN ?_ _ | refine blk_drew ?_ | refine blk_alloc ?_ _)); exact BK330.out)) : gb332 ≠ gb330)); clear BK330; clear HB; have BK330 := n0_; have HB := n1_; have BK332 := n2_; have GW332 := n3_; have GE332 := n4_; have NB330_332 := n5_; have NB332_330 := n6_; clear n0_ n1_ n2_ n3_ n4_ n5_ n6_; clear hb hbox hg; have hnb10 := NB332_330.out; have hnc10 := NB330_332.out; have hcz11_0 : w9.cell? ⟨gb332, 0, none⟩ = some (.int .i64 0) := (blk_cell BK332.out 0).trans rfl; have hcz11_1 : w9.cell? ⟨gb332, 1, none⟩ = some (.int .i64 0) := (blk_cell BK332.out 1).trans rfl; have hcz11_2 : w9.cell? ⟨gb332, 2, none⟩ = some (.int .i64 0) := (blk_cell BK332.out 2).trans rfl; have hcz11_3 : w9.cell? ⟨gb332, 3, none⟩ = some (.slice none 0 0) := (blk_cell BK332.out 3).trans rfl; have hfz11_0 := blk_frozen BK332.out 0; have hfz11_1 := blk_frozen BK332.out 1; have hfz11_2 := blk_frozen BK332.out 2; have hfz11_3 := blk_frozen BK332.out 3))
      (try simp only [Act.put, List.setIfInBounds_toArray, List.set_cons_zero, List.set_cons_succ])
      go_cut [24] (fun v24 wc => ∃ (kq : Nat) (x24_5 : Bool), v24 = .bool x24_5 ∧ Aside0 (cavilref13_Owns.j0 kq a2 x24_5 l0_0 ((rd_T44 l0_0 a1).f0) ((rd_T44 l0_0 a1).f1) ((rd_T44 l0_0 a1).f2) ((rd_T44 l0_0 a1).f3) = some r) ∧ Aside0 (kq ≤ k) ∧ Aside0 (wc.heap[gb330]? = some (.cells #[(.slice (some ad331) l0_0.length c0_0)] 26 (0, 0))) ∧ Aside0 (wc.heap[gb332]? = some (.cells #[.int .i64 ((rd_T44 l0_0 a1).f0), .int .i64 ((rd_T44 l0_0 a1).f1), .int .i64 ((rd_T44 l0_0 a1).f2), (.slice A331_3 ((rd_T44 l0_0 a1).f3).length c331_3)] 44 (0, 0))) ∧ Aside0 (Below w.heap.size w wc))
      case first =>
        have H := HC6.out
        clear HC6
        by_cases c12 : a2 < ((rd_T44 l0_0 a1).f1)
        · rw [if_pos c12] at H
          have c12b0 : decide (a2 < ((rd_T44 l0_0 a1).f1)) = true := decide_eq_true c12
          clear c12
          (first | rw [c12b0] | (simp only [i64_w, i32_w]; rw [c12b0]) | skip)
          have H' := Aside0.mk H
          clear H
          have hnb13 := NB332_330.out
          have hnc13 := NB330_332.out
          have hcz14_0 : w9.cell? ⟨gb332, 0, none⟩ = some (.int .i64 0) := (blk_cell BK332.out 0).trans rfl
          have hcz14_1 : w9.cell? ⟨gb332, 1, none⟩ = some (.int .i64 0) := (blk_cell BK332.out 1).trans rfl
          have hcz14_2 : w9.cell? ⟨gb332, 2, none⟩ = some (.int .i64 0) := (blk_cell BK332.out 2).trans rfl
          have hcz14_3 : w9.cell? ⟨gb332, 3, none⟩ = some (.slice none 0 0) := (blk_cell BK332.out 3).trans rfl
          have hfz14_0 := blk_frozen BK332.out 0
          have hfz14_1 := blk_frozen BK332.out 1
          have hfz14_2 := blk_frozen BK332.out 2
          have hfz14_3 := blk_frozen BK332.out 3
          go_wp2
          go_meet
          case rel => exact ⟨_, (true), (by first | rfl | (simp; done) | (simp [*]; done)), H', ⟨by first | omega | exact Nat.le_refl _⟩, ⟨by (with_reducible repeat (first | refine blk_drewN ?_ _ | refine blk_drew ?_ | refine blk_alloc ?_ _)); refine blk_far ?_ NB330_332.out _; (with_reducible repeat (first | refine blk_drewN ?_ _ | refine blk_drew ?_ | refine blk_alloc ?_ _)); refine blk_far ?_ NB330_332.out _; (with_reducible repeat (first | refine blk_drewN ?_ _ | refine blk_drew ?_ | refine blk_alloc ?_ _)); refine blk_far ?_ NB330_332.out _; (with_reducible repeat (first | refine blk_drewN ?_ _ | refine blk_drew ?_ | refine blk_alloc ?_ _)); refine blk_far ?_ NB330_332.out _; (with_reducible repeat (first | refine blk_drewN ?_ _ | refine blk_drew ?_ | refine blk_alloc ?_ _)); exact BK330.out⟩, ⟨by (with_reducible repeat (first | refine blk_drewN ?_ _ | refine blk_drew ?_ | refine blk_alloc ?_ _)); refine blk_put (cs := #[.int .i64 ((rd_T44 l0_0 a1).f0), .int .i64 ((rd_T44 l0_0 a1).f1), .int .i64 ((rd_T44 l0_0 a1).f2), .slice none 0 0]) ?_ 3 _ rfl; (with_reducible repeat (first | refine blk_drewN ?_ _ | refine blk_drew ?_ | refine blk_alloc ?_ _)); refine blk_put (cs := #[.int .i64 ((rd_T44 l0_0 a1).f0), .int .i64 ((rd_T44 l0_0 a1).f1), .int .i64 0, .slice none 0 0]) ?_ 2 _ rfl; (with_reducible repeat (first | refine blk_drewN ?_ _ | refine blk_drew ?_ | refine blk_alloc ?_ _)); refine blk_put (cs := #[.int .i64 ((rd_T44 l0_0 a1).f0), .int .i64 0, .int .i64 0, .slice none 0 0]) ?_ 1 _ rfl; (with_reducible repeat (first | refine blk_drewN ?_ _ | refine blk_drew ?_ | refine blk_alloc ?_ _)); refine blk_put (cs := #[.int .i64 0, .int .i64 0, .int .i64 0, .slice none 0 0]) ?_ 0 _ rfl; (with_reducible repeat (first | refine blk_drewN ?_ _ | refine blk_drew ?_ | refine blk_alloc ?_ _)); exact BK332.out⟩, ⟨by repeat (first | (with_reducible first | exact HB.out | apply below_alloc | apply pw_below_drewN | apply below_drew1 | refine below_set ?_ GE330.out | refine below_set ?_ GE332.out) | exact HB.out)⟩⟩
        · rw [if_neg c12] at H
          have c12b0 : decide (a2 < ((rd_T44 l0_0 a1).f1)) = false := decide_eq_false c12
          clear c12
          (first | rw [c12b0] | (simp only [i64_w, i32_w]; rw [c12b0]) | skip)
          have H' := Aside0.mk H
          clear H
          have hnb15 := NB332_330.out
          have hnc15 := NB330_332.out
          have hcz16_0 : w9.cell? ⟨gb332, 0, none⟩ = some (.int .i64 0) := (blk_cell BK332.out 0).trans rfl
          have hcz16_1 : w9.cell? ⟨gb332, 1, none⟩ = some (.int .i64 0) := (blk_cell BK332.out 1).trans rfl
          have hcz16_2 : w9.cell? ⟨gb332, 2, none⟩ = some (.int .i64 0) := (blk_cell BK332.out 2).trans rfl
          have hcz16_3 : w9.cell? ⟨gb332, 3, none⟩ = some (.slice none 0 0) := (blk_cell BK332.out 3).trans rfl
          have hfz16_0 := blk_frozen BK332.out 0
          have hfz16_1 := blk_frozen BK332.out 1
          have hfz16_2 := blk_frozen BK332.out 2
          have hfz16_3 := blk_frozen BK332.out 3
          go_wp2
          go_meet
          case rel => exact ⟨_, (decide (a2 ≥ ((rd_T44 l0_0 a1).f2))), (by first | rfl | (simp; done) | (simp [*]; done)), H', ⟨by first | omega | exact Nat.le_refl _⟩, ⟨by (with_reducible repeat (first | refine blk_drewN ?_ _ | refine blk_drew ?_ | refine blk_alloc ?_ _)); refine blk_far ?_ NB330_332.out _; (with_reducible repeat (first | refine blk_drewN ?_ _ | refine blk_drew ?_ | refine blk_alloc ?_ _)); refine blk_far ?_ NB330_332.out _; (with_reducible repeat (first | refine blk_drewN ?_ _ | refine blk_drew ?_ | refine blk_alloc ?_ _)); refine blk_far ?_ NB330_332.out _; (with_reducible repeat (first | refine blk_drewN ?_ _ | refine blk_drew ?_ | refine blk_alloc ?_ _)); refine blk_far ?_ NB330_332.out _; (with_reducible repeat (first | refine blk_drewN ?_ _ | refine blk_drew ?_ | refine blk_alloc ?_ _)); exact BK330.out⟩, ⟨by (with_reducible repeat (first | refine blk_drewN ?_ _ | refine blk_drew ?_ | refine blk_alloc ?_ _)); refine blk_put (cs := #[.int .i64 ((rd_T44 l0_0 a1).f0), .int .i64 ((rd_T44 l0_0 a1).f1), .int .i64 ((rd_T44 l0_0 a1).f2), .slice none 0 0]) ?_ 3 _ rfl; (with_reducible repeat (first | refine blk_drewN ?_ _ | refine blk_drew ?_ | refine blk_alloc ?_ _)); refine blk_put (cs := #[.int .i64 ((rd_T44 l0_0 a1).f0), .int .i64 ((rd_T44 l0_0 a1).f1), .int .i64 0, .slice none 0 0]) ?_ 2 _ rfl; (with_reducible repeat (first | refine blk_drewN ?_ _ | refine blk_drew ?_ | refine blk_alloc ?_ _)); refine blk_put (cs := #[.int .i64 ((rd_T44 l0_0 a1).f0), .int .i64 0, .int .i64 0, .slice none 0 0]) ?_ 1 _ rfl; (with_reducible repeat (first | refine blk_drewN ?_ _ | refine blk_drew ?_ | refine blk_alloc ?_ _)); refine blk_put (cs := #[.int .i64 0, .int .i64 0, .int .i64 0, .slice none 0 0]) ?_ 0 _ rfl; (with_reducible repeat (first | refine blk_drewN ?_ _ | refine blk_drew ?_ | refine blk_alloc ?_ _)); exact BK332.out⟩, ⟨by repeat (first | (with_reducible first | exact HB.out | apply below_alloc | apply pw_below_drewN | apply below_drew1 | refine below_set ?_ GE330.out | refine below_set ?_ GE332.out) | exact HB.out)⟩⟩
      case rest =>
        clear HC6
        try clear c1
        try clear p2
        try clear c3
        try clear p3
        try clear q3
        try clear hx3
        try clear c4
        try clear c4b0
        try clear c5
        try clear c5b0
        try clear c10
        try clear c12
        try clear c12b0
        try clear c13
        try clear c15
        try clear hcz11_0
        try clear hcz11_1
        try clear hcz11_2
        try clear hcz11_3
        try clear hcz14_0
        try clear hcz14_1
        try clear hcz14_2
        try clear hcz14_3
        try clear hcz16_0
        try clear hcz16_1
        try clear hcz16_2
        try clear hcz16_3
        try clear hcz8_0
        try clear hfz11_0
        try clear hfz11_1
        try clear hfz11_2
        try clear hfz11_3
        try clear hfz14_0
        try clear hfz14_1
        try clear hfz14_2
        try clear hfz14_3
        try clear hfz16_0
        try clear hfz16_1
        try clear hfz16_2
        try clear hfz16_3
        try clear hfz8_0
        try clear hx331_0
        try clear hx331_1
        try clear hx331_2
        try clear hx331_3
        try clear p331
        try clear q331
        obtain ⟨kq, x24_5, rfl, HA, HJ5, BK330, BK332, HB⟩ := hcut
        cases kq with
        | zero => exact absurd HA.out (by simp [cavilref13_Owns.j0])
        | succ kj5 =>
          have H := HA.out
          clear HA
          simp only [cavilref13_Owns.j0] at H
          by_cases c17 : x24_5 = true
          · subst c17
            have H1 : (some false) = some r := by rw [if_pos rfl] at H; exact H
            clear H
            have H := H1
            clear H1
            obtain rfl := Option.some.inj H
            go_wp2
            go_ret
            exact ⟨by first | rfl | (simp [errW_none, errW_some, erT_no, erV_no, erT_at, erV_at] <;> rfl) | (simp [*, errW_none, errW_some, erT_no, erV_no, erT_at, erV_at] <;> rfl), by repeat (first | (with_reducible first | exact HB.out | apply below_alloc | apply pw_below_drewN | apply below_drew1 | refine below_set ?_ GE330.out | refine below_set ?_ GE332.out) | exact HB.out)⟩
          · replace c17 := Bool.eq_false_iff.mpr c17
            subst c17
            have H1 : (cavilref13_Owns.l0 kj5 a2 0 l0_0 ((rd_T44 l0_0 a1).f0) ((rd_T44 l0_0 a1).f1) ((rd_T44 l0_0 a1).f2) ((rd_T44 l0_0 a1).f3)) = some r := by rw [if_neg (show ¬ (false = true) by decide)] at H; exact H
            clear H
            have H := H1
            clear H1
            have H' := Aside0.mk H
            clear H
            go_wp2
            go_loopg [8] kj5 (fun kq v8 w' => ∃ (x8_2 : Int), v8 = .int .i64 x8_2 ∧ Aside0 (cavilref13_Owns.l0 kq a2 x8_2 l0_0 ((rd_T44 l0_0 a1).f0) ((rd_T44 l0_0 a1).f1) ((rd_T44 l0_0 a1).f2) ((rd_T44 l0_0 a1).f3) = some r) ∧ Aside0 (kq ≤ kj5) ∧ Aside0 (w'.heap[gb330]? = some (.cells #[(.slice (some ad331) l0_0.length c0_0)] 26 (0, 0))) ∧ Aside0 (w'.heap[gb332]? = some (.cells #[.int .i64 ((rd_T44 l0_0 a1).f0), .int .i64 ((rd_T44 l0_0 a1).f1), .int .i64 ((rd_T44 l0_0 a1).f2), (.slice A331_3 ((rd_T44 l0_0 a1).f3).length c331_3)] 44 (0, 0))) ∧ Aside0 (Below w.heap.size w w'))
            case atStart => exact ⟨(0), (by first | rfl | (simp; done) | (simp [*]; done)), H', ⟨Nat.le_refl _⟩, ⟨by (with_reducible repeat (first | refine blk_drewN ?_ _ | refine blk_drew ?_ | refine blk_alloc ?_ _)); exact BK330.out⟩, ⟨by (with_reducible repeat (first | refine blk_drewN ?_ _ | refine blk_drew ?_ | refine blk_alloc ?_ _)); exact BK332.out⟩, ⟨by repeat (first | (with_reducible first | exact HB.out | apply below_alloc | apply pw_below_drewN | apply below_drew1 | refine below_set ?_ GE330.out | refine below_set ?_ GE332.out) | exact HB.out)⟩⟩
            case round =>
              clear H'
              try clear c1
              try clear p2
              try clear c3
              try clear p3
              try clear q3
              try clear hx3
              try clear c4
              try clear c4b0
              try clear c5
              try clear c5b0
              try clear c10
              try clear c12
              try clear c12b0
              try clear c13
              try clear c15
              try clear c17
              try clear hcz11_0
              try clear hcz11_1
              try clear hcz11_2
              try clear hcz11_3
              try clear hcz14_0
              try clear hcz14_1
              try clear hcz14_2
              try clear hcz14_3
              try clear hcz16_0
              try clear hcz16_1
              try clear hcz16_2
              try clear hcz16_3
              try clear hcz8_0
              try clear hfz11_0
              try clear hfz11_1
              try clear hfz11_2
              try clear hfz11_3
              try clear hfz14_0
              try clear hfz14_1
              try clear hfz14_2
              try clear hfz14_3
              try clear hfz16_0
              try clear hfz16_1
              try clear hfz16_2
              try clear hfz16_3
              try clear hfz8_0
              try clear hx331_0
              try clear hx331_1
              try clear hx331_2
              try clear hx331_3
              try clear p2
              try clear p3
              try clear p331
              try clear q3
              try clear q331
              obtain ⟨x8_2, rfl, HA, HK2, BK330, BK332, HB⟩ := hrel
              cases gk with
              | zero => exact absurd HA.out (by simp [cavilref13_Owns.l0])
              | succ k2 =>
                have H := HA.out
                clear HA
                simp only [cavilref13_Owns.l0] at H
                by_cases c18 : x8_2 < (((rd_T44 l0_0 a1).f3).length : Int)
                · rw [if_pos c18] at H
                  have c18b0 : decide (x8_2 < (((rd_T44 l0_0 a1).f3).length : Int)) = true := decide_eq_true c18
                  clear c18
                  by_cases c19 : 0 ≤ x8_2
                  · rw [if_pos c19] at H
                    have c19b0 : decide (0 ≤ x8_2) = true := decide_eq_true c19
                    clear c19
                    by_cases c20 : 0 ≤ (rd ((rd_T44 l0_0 a1).f3) x8_2)
                    · rw [if_pos c20] at H
                      have c20b0 : decide (0 ≤ (rd ((rd_T44 l0_0 a1).f3) x8_2)) = true := decide_eq_true c20
                      clear c20
                      by_cases c21 : (rd ((rd_T44 l0_0 a1).f3) x8_2) < (l0_0.length : Int)
                      · rw [if_pos c21] at H
                        have c21b0 : decide ((rd ((rd_T44 l0_0 a1).f3) x8_2) < (l0_0.length : Int)) = true := decide_eq_true c21
                        clear c21
                        by_cases c22 : a2 ≥ ((rd_T44 l0_0 (rd ((rd_T44 l0_0 a1).f3) x8_2)).f1)
                        · rw [if_pos c22] at H
                          have c22b0 : decide (((rd_T44 l0_0 (rd ((rd_T44 l0_0 a1).f3) x8_2)).f1) ≤ a2) = true := decide_eq_true c22
                          clear c22
                          by_cases c23 : a2 < ((rd_T44 l0_0 (rd ((rd_T44 l0_0 a1).f3) x8_2)).f2)
                          · rw [if_pos c23] at H
                            have c23b0 : decide (a2 < ((rd_T44 l0_0 (rd ((rd_T44 l0_0 a1).f3) x8_2)).f2)) = true := decide_eq_true c23
                            clear c23
                            obtain rfl := Option.some.inj H
                            have hnb24 := NB332_330.out
                            have hnc24 := NB330_332.out
                            have hcz25_0 : wr.cell? ⟨gb332, 0, none⟩ = some (.int .i64 ((rd_T44 l0_0 a1).f0)) := (blk_cell BK332.out 0).trans rfl
                            have hcz25_1 : wr.cell? ⟨gb332, 1, none⟩ = some (.int .i64 ((rd_T44 l0_0 a1).f1)) := (blk_cell BK332.out 1).trans rfl
                            have hcz25_2 : wr.cell? ⟨gb332, 2, none⟩ = some (.int .i64 ((rd_T44 l0_0 a1).f2)) := (blk_cell BK332.out 2).trans rfl
                            have hcz25_3 : wr.cell? ⟨gb332, 3, none⟩ = some (.slice A331_3 ((rd_T44 l0_0 a1).f3).length c331_3) := (blk_cell BK332.out 3).trans rfl
                            have hfz25_0 := blk_frozen BK332.out 0
                            have hfz25_1 := blk_frozen BK332.out 1
                            have hfz25_2 := blk_frozen BK332.out 2
                            have hfz25_3 := blk_frozen BK332.out 3
                            try go_wp2
                            have n0_ := Aside0.mk (blk_drew BK330.out)
                            have n1_ := Aside0.mk (blk_drew BK332.out)
                            have n2_ := Aside0.mk (below_drew1 HB.out)
                            clear BK330
                            clear BK332
                            clear HB
                            have BK330 := n0_
                            have BK332 := n1_
                            have HB := n2_
                            clear n0_ n1_ n2_
                            have p333 : 0 ≤ (x8_2 : Int) := of_decide_eq_true (by first | (with_reducible assumption) | assumption)
                            have q333 : x8_2 < (((rd_T44 l0_0 a1).f3).length : Int) := of_decide_eq_true (by first | (with_reducible assumption) | assumption)
                            obtain ⟨ad333, e333, hx333_0⟩ := Kd.at_int HR331_3.out x8_2 p333 q333
                            have hw333_0 := hx333_0
                            cases e333
                            replace hx333_0 := (HB.out.cell (World.block_lt_of_cell? w _ hx333_0)).trans hx333_0
                            replace p333 := eq_true p333
                            replace q333 := eq_true q333
                            have p334 : 0 ≤ ((rd ((rd_T44 l0_0 a1).f3) x8_2) : Int) := of_decide_eq_true (by first | (with_reducible assumption) | assumption)
                            have q334 : (rd ((rd_T44 l0_0 a1).f3) x8_2) < (l0_0.length : Int) := of_decide_eq_true (by first | (with_reducible assumption) | assumption)
                            obtain ⟨ad334, A334_3, c334_3, e334, hx334_0, hx334_1, hx334_2, hx334_3, hl334_3, hi334_3⟩ := at_T44 HR0_0.out (rd ((rd_T44 l0_0 a1).f3) x8_2) p334 q334
                            have hw334_3 := hx334_3
                            have hw334_2 := hx334_2
                            have hw334_1 := hx334_1
                            have hw334_0 := hx334_0
                            obtain rfl : ad331 = ad334 := (by injection e334)
                            replace hx334_0 := (HB.out.cell (World.block_lt_of_cell? w _ hx334_0)).trans hx334_0
                            replace hx334_1 := (HB.out.cell (World.block_lt_of_cell? w _ hx334_1)).trans hx334_1
                            replace hx334_2 := (HB.out.cell (World.block_lt_of_cell? w _ hx334_2)).trans hx334_2
                            replace hx334_3 := (HB.out.cell (World.block_lt_of_cell? w _ hx334_3)).trans hx334_3
                            have HR334_3 := Aside0.mk hi334_3
                            have HC334_3 := Aside0.mk hl334_3
                            clear hi334_3 hl334_3
                            replace p334 := eq_true p334
                            replace q334 := eq_true q334
                            refine start_ (n := 11) (S := fun w' => w'.cell? ⟨gb330, 0, none⟩ = some (.slice (some ad331) l0_0.length c0_0) ∧ w'.cell? ⟨gb332, 0, none⟩ = some (.int .i64 ((rd_T44 l0_0 a1).f0)) ∧ w'.cell? ⟨gb332, 1, none⟩ = some (.int .i64 ((rd_T44 l0_0 a1).f1)) ∧ w'.cell? ⟨gb332, 2, none⟩ = some (.int .i64 ((rd_T44 l0_0 a1).f2)) ∧ w'.cell? ⟨gb332, 3, none⟩ = some (.slice (some ad333) ((rd_T44 l0_0 a1).f3).length c331_3) ∧ w'.cell? (ad333.add (x8_2).toNat) = some (.int .i64 (rd ((rd_T44 l0_0 a1).f3) x8_2)) ∧ w'.cell? (ad331.add (((rd ((rd_T44 l0_0 a1).f3) x8_2)).toNat * 4)) = some (.int .i64 ((rd_T44 l0_0 (rd ((rd_T44 l0_0 a1).f3) x8_2)).f0)) ∧ w'.cell? ⟨(ad331.add (((rd ((rd_T44 l0_0 a1).f3) x8_2)).toNat * 4)).block, (ad331.add (((rd ((rd_T44 l0_0 a1).f3) x8_2)).toNat * 4)).off + 1, none⟩ = some (.int .i64 ((rd_T44 l0_0 (rd ((rd_T44 l0_0 a1).f3) x8_2)).f1)) ∧ w'.cell? ⟨(ad331.add (((rd ((rd_T44 l0_0 a1).f3) x8_2)).toNat * 4)).block, (ad331.add (((rd ((rd_T44 l0_0 a1).f3) x8_2)).toNat * 4)).off + 2, none⟩ = some (.int .i64 ((rd_T44 l0_0 (rd ((rd_T44 l0_0 a1).f3) x8_2)).f2)) ∧ w'.cell? ⟨(ad331.add (((rd ((rd_T44 l0_0 a1).f3) x8_2)).toNat * 4)).block, (ad331.add (((rd ((rd_T44 l0_0 a1).f3) x8_2)).toNat * 4)).off + 3, none⟩ = some (.slice A334_3 ((rd_T44 l0_0 (rd ((rd_T44 l0_0 a1).f3) x8_2)).f3).length c334_3)) (ds := []) #[false, false, false, false, false, false, false, false, false, false, false] (by kernel_rfl) rfl rfl ⟨(blk_cell BK330.out 0).trans rfl, (blk_cell BK332.out 0).trans rfl, (blk_cell BK332.out 1).trans rfl, (blk_cell BK332.out 2).trans rfl, (blk_cell BK332.out 3).trans rfl, ((HB.out.cell (World.block_lt_of_cell? w _ hw333_0)).trans hw333_0), ((HB.out.cell (World.block_lt_of_cell? w _ hw334_0)).trans hw334_0), ((HB.out.cell (World.block_lt_of_cell? w _ hw334_1)).trans hw334_1), ((HB.out.cell (World.block_lt_of_cell? w _ hw334_2)).trans hw334_2), ((HB.out.cell (World.block_lt_of_cell? w _ hw334_3)).trans hw334_3)⟩ (fun hHeld => ?_); refine with_tabW cavilref13_Owns.tab7 cavilref13_Owns.bits7 (fun HT_ HW_ => ?_)
                            generalize wr.drew = w26 at BK330 BK332 HB HR334_3 hx333_0 hx334_0 hx334_1 hx334_2 hx334_3 hHeld ⊢
                            refine pure_ (i := 0) (N := some 32) (v := ?_) (a' := ?_) #[true, false, false, false, false, false, false, false, false, false, false] rfl rfl (any_of HT_.out (by kernel_rfl)) (fun _ _ _ h => h) (Or.inl ⟨by rfl, ?_⟩) ?_ ?_; rotate_left; { intro w'; go_simp; with_reducible rfl }; rotate_left; { simp only [Act.put, List.setIfInBounds_toArray, List.set_cons_zero, List.set_cons_succ, i64_w, i32_w]; rfl }
                            refine pure_ (i := 2) (N := some 34) (v := ?_) (a' := ?_) #[true, false, true, false, false, false, false, false, false, false, false] rfl rfl (any_of HT_.out (by kernel_rfl)) (fun _ _ _ h => h) (Or.inl ⟨by rfl, ?_⟩) ?_ ?_; rotate_left; { intro w'; go_simp; with_reducible rfl }; rotate_left; { simp only [Act.put, List.setIfInBounds_toArray, List.set_cons_zero, List.set_cons_succ, i64_w, i32_w]; rfl }
                            refine pure_ (i := 4) (N := some 36) (v := ?_) (a' := ?_) #[true, false, true, false, true, false, false, false, false, false, false] rfl rfl (any_of HT_.out (by kernel_rfl)) (fun _ _ _ h => h) (Or.inl ⟨by rfl, ?_⟩) ?_ ?_; rotate_left; { intro w'; go_simp; with_reducible rfl }; rotate_left; { simp only [Act.put, List.setIfInBounds_toArray, List.set_cons_zero, List.set_cons_succ, i64_w, i32_w]; rfl }
                            refine take_ (i := 1) (N := some 33) (v := ?_) (a' := ?_) #[true, true, true, false, true, false, false, false, false, false, false] rfl rfl (take_ofW HT_.out HW_.out (by kernel_rfl)) (fun _ _ _ h => h) (Or.inl ⟨by rfl, ?_⟩) hHeld ?_ ?_; rotate_left; { rintro w' ⟨s0, s1, s2, s3, s4, s5, s6, s7, s8, s9⟩; go_simp; with_reducible rfl }; rotate_left; { simp only [Act.put, List.setIfInBounds_toArray, List.set_cons_zero, List.set_cons_succ, i64_w, i32_w]; rfl }
                            refine take_ (i := 3) (N := some 35) (v := ?_) (a' := ?_) #[true, true, true, true, true, false, false, false, false, false, false] rfl rfl (take_ofW HT_.out HW_.out (by kernel_rfl)) (fun _ _ _ h => h) (Or.inl ⟨by rfl, ?_⟩) hHeld ?_ ?_; rotate_left; { rintro w' ⟨s0, s1, s2, s3, s4, s5, s6, s7, s8, s9⟩; go_simp; with_reducible rfl }; rotate_left; { simp only [Act.put, List.setIfInBounds_toArray, List.set_cons_zero, List.set_cons_succ, i64_w, i32_w]; rfl }
                            refine pure_ (i := 5) (N := some 37) (v := ?_) (a' := ?_) #[true, true, true, true, true, true, false, false, false, false, false] rfl rfl (any_of HT_.out (by kernel_rfl)) (fun _ _ _ h => h) (Or.inl ⟨by rfl, ?_⟩) ?_ ?_; rotate_left; { intro w'; go_simp; with_reducible rfl }; rotate_left; { simp only [Act.put, List.setIfInBounds_toArray, List.set_cons_zero, List.set_cons_succ, i64_w, i32_w]; rfl }
                            refine take_ (i := 6) (N := some 38) (v := ?_) (a' := ?_) #[true, true, true, true, true, true, true, false, false, false, false] rfl rfl (take_ofW HT_.out HW_.out (by kernel_rfl)) (fun _ _ _ h => h) (Or.inl ⟨by rfl, ?_⟩) hHeld ?_ ?_; rotate_left; { rintro w' ⟨s0, s1, s2, s3, s4, s5, s6, s7, s8, s9⟩; go_simp; with_reducible rfl }; rotate_left; { simp only [Act.put, List.setIfInBounds_toArray, List.set_cons_zero, List.set_cons_succ, i64_w, i32_w]; rfl }
                            refine pure_ (i := 7) (N := some 39) (v := ?_) (a' := ?_) #[true, true, true, true, true, true, true, true, false, false, false] rfl rfl (any_of HT_.out (by kernel_rfl)) (fun _ _ _ h => h) (Or.inl ⟨by rfl, ?_⟩) ?_ ?_; rotate_left; { intro w'; go_simp; with_reducible rfl }; rotate_left; { simp only [Act.put, List.setIfInBounds_toArray, List.set_cons_zero, List.set_cons_succ, i64_w, i32_w]; rfl }
                            refine take_ (i := 8) (N := some 40) (v := ?_) (a' := ?_) #[true, true, true, true, true, true, true, true, true, false, false] rfl rfl (take_ofW HT_.out HW_.out (by kernel_rfl)) (fun _ _ _ h => h) (Or.inl ⟨by rfl, ?_⟩) hHeld ?_ ?_; rotate_left; { rintro w' ⟨s0, s1, s2, s3, s4, s5, s6, s7, s8, s9⟩; go_simp; with_reducible rfl }; rotate_left; { simp only [Act.put, List.setIfInBounds_toArray, List.set_cons_zero, List.set_cons_succ, i64_w, i32_w]; rfl }
                            refine one_ (i := 9) (N := some 9) #[true, true, true, true, true, true, true, true, true, true, false] rfl rfl (one_of HT_.out (by kernel_rfl)) (by decide) (fun K hK => ?_)
                            refine box_step ?hg (N := 9) ?hd (cs := #[.int .i64 0, .int .i64 0, .int .i64 0, .slice none 0 0]) (t := 44) ?hr ?_; (case hd => rfl); (case hg => rfl); (case hr => first | (go_simp; done) | (go_simp; rfl))
                            intro gb335 hg w27 hbox hb
                            have n0_ := Aside0.mk (blk_below (g := gb330) (o := .cells #[.slice (some ad331) l0_0.length c0_0] 26 (0, 0)) (by (with_reducible repeat (first | refine blk_drewN ?_ _ | refine blk_drew ?_ | refine blk_alloc ?_ _)); exact BK330.out) hb)
                            have n1_ := Aside0.mk (blk_below (g := gb332) (o := .cells #[.int .i64 ((rd_T44 l0_0 a1).f0), .int .i64 ((rd_T44 l0_0 a1).f1), .int .i64 ((rd_T44 l0_0 a1).f2), .slice (some ad333) ((rd_T44 l0_0 a1).f3).length c331_3] 44 (0, 0)) (by (with_reducible repeat (first | refine blk_drewN ?_ _ | refine blk_drew ?_ | refine blk_alloc ?_ _)); exact BK332.out) hb)
                            have n2_ := Aside0.mk (below_step (by repeat (first | (with_reducible first | exact HB.out | apply below_alloc | apply pw_below_drewN | apply below_drew1 | refine below_set ?_ GE330.out | refine below_set ?_ GE332.out) | exact HB.out)) hb)
                            have n3_ := Aside0.mk (hbox)
                            have n4_ := Aside0.mk ((by rw [hg]; exact (below_size (by repeat (first | (with_reducible first | exact HB.out | apply below_alloc | apply pw_below_drewN | apply below_drew1 | refine below_set ?_ GE330.out | refine below_set ?_ GE332.out) | exact HB.out))) : w.heap.size ≤ gb335))
                            have n5_ := Aside0.mk ((by rw [hg]; exact (below_size (by repeat (first | (with_reducible first | exact HB.out | apply below_alloc | apply pw_below_drewN | apply below_drew1 | refine below_set ?_ GE330.out | refine below_set ?_ GE332.out) | exact HB.out))) : w.heap.size ≤ gb335))
                            have n6_ := Aside0.mk ((by rw [hg]; exact Nat.ne_of_lt (blk_lt (g := gb330) (o := .cells #[.slice (some ad331) l0_0.length c0_0] 26 (0, 0)) (by (with_reducible repeat (first | refine blk_drewN ?_ _ | refine blk_drew ?_ | refine blk_alloc ?_ _)); exact BK330.out)) : gb330 ≠ gb335))
                            have n7_ := Aside0.mk ((by rw [hg]; exact Nat.ne_of_gt (blk_lt (g := gb330) (o := .cells #[.slice (some ad331) l0_0.length c0_0] 26 (0, 0)) (by (with_reducible repeat (first | refine blk_drewN ?_ _ | refine blk_drew ?_ | refine blk_alloc ?_ _)); exact BK330.out)) : gb335 ≠ gb330))
                            have n8_ := Aside0.mk ((by rw [hg]; exact Nat.ne_of_lt (blk_lt (g := gb332) (o := .cells #[.int .i64 ((rd_T44 l0_0 a1).f0), .int .i64 ((rd_T44 l0_0 a1).f1), .int .i64 ((rd_T44 l0_0 a1).f2), .slice (some ad333) ((rd_T44 l0_0 a1).f3).length c331_3] 44 (0, 0)) (by (with_reducible repeat (first | refine blk_drewN ?_ _ | refine blk_drew ?_ | refine blk_alloc ?_ _)); exact BK332.out)) : gb332 ≠ gb335))
                            have n9_ := Aside0.mk ((by rw [hg]; exact Nat.ne_of_gt (blk_lt (g := gb332) (o := .cells #[.int .i64 ((rd_T44 l0_0 a1).f0), .int .i64 ((rd_T44 l0_0 a1).f1), .int .i64 ((rd_T44 l0_0 a1).f2), .slice (some ad333) ((rd_T44 l0_0 a1).f3).length c331_3] 44 (0, 0)) (by (with_reducible repeat (first | refine blk_drewN ?_ _ | refine blk_drew ?_ | refine blk_alloc ?_ _)); exact BK332.out)) : gb335 ≠ gb332))
                            clear BK330
                            clear BK332
                            clear HB
                            have BK330 := n0_
                            have BK332 := n1_
                            have HB := n2_
                            have BK335 := n3_
                            have GW335 := n4_
                            have GE335 := n5_
                            have NB330_335 := n6_
                            have NB335_330 := n7_
                            have NB332_335 := n8_
                            have NB335_332 := n9_
                            clear n0_ n1_ n2_ n3_ n4_ n5_ n6_ n7_ n8_ n9_
                            clear hb hbox hg
                            refine hK.out _ _ ⟨(blk_cell BK330.out 0).trans rfl, (blk_cell BK332.out 0).trans rfl, (blk_cell BK332.out 1).trans rfl, (blk_cell BK332.out 2).trans rfl, (blk_cell BK332.out 3).trans rfl, ((HB.out.cell (World.block_lt_of_cell? w _ hw333_0)).trans hw333_0), ((HB.out.cell (World.block_lt_of_cell? w _ hw334_0)).trans hw334_0), ((HB.out.cell (World.block_lt_of_cell? w _ hw334_1)).trans hw334_1), ((HB.out.cell (World.block_lt_of_cell? w _ hw334_2)).trans hw334_2), ((HB.out.cell (World.block_lt_of_cell? w _ hw334_3)).trans hw334_3)⟩ (fun hHeld => ?_)
                            clear hK K
                            refine norm_ (a' := ?_) ?_ ?_; rotate_left; { show Act.put _ (some 9) _ = _; simp only [Act.put, List.setIfInBounds_toArray, List.set_cons_zero, List.set_cons_succ, i64_w, i32_w]; rfl }
                            refine one_ (i := 10) (N := none) #[true, true, true, true, true, true, true, true, true, true, true] rfl rfl (one_of HT_.out (by kernel_rfl)) (by decide) (fun K hK => ?_)
                            have hs28 : w27.cell? ⟨gb335, 0, none⟩ = some (.int .i64 0) := (blk_cell BK335.out 0).trans rfl
                            have hfs28 := blk_frozen BK335.out 0
                            have hns28_0 := NB330_335.out
                            have hns28_1 := NB332_335.out
                            have hms28_0 := NB335_330.out
                            have hms28_1 := NB335_332.out
                            have hs29 : w27.cell? ⟨gb335, 1, none⟩ = some (.int .i64 0) := (blk_cell BK335.out 1).trans rfl
                            have hfs29 := blk_frozen BK335.out 1
                            have hns29_0 := NB330_335.out
                            have hns29_1 := NB332_335.out
                            have hms29_0 := NB335_330.out
                            have hms29_1 := NB335_332.out
                            have hs30 : w27.cell? ⟨gb335, 2, none⟩ = some (.int .i64 0) := (blk_cell BK335.out 2).trans rfl
                            have hfs30 := blk_frozen BK335.out 2
                            have hns30_0 := NB330_335.out
                            have hns30_1 := NB332_335.out
                            have hms30_0 := NB335_330.out
                            have hms30_1 := NB335_332.out
                            have hs31 : w27.cell? ⟨gb335, 3, none⟩ = some (.slice none 0 0) := (blk_cell BK335.out 3).trans rfl
                            have hfs31 := blk_frozen BK335.out 3
                            have hns31_0 := NB330_335.out
                            have hns31_1 := NB332_335.out
                            have hms31_0 := NB335_330.out
                            have hms31_1 := NB335_332.out
                            refine skip_ (w1 := ?_) (by rfl) rfl ?_ ?_; rotate_left; { go_simp; rfl }
                            refine hK.out _ _ ⟨((cell_far (p := ⟨gb335, _, none⟩) NB330_335.out _).trans (((cell_far (p := ⟨gb335, _, none⟩) NB330_335.out _).trans (((cell_far (p := ⟨gb335, _, none⟩) NB330_335.out _).trans (((cell_far (p := ⟨gb335, _, none⟩) NB330_335.out _).trans (hHeld.1)))))))), ((cell_far (p := ⟨gb335, _, none⟩) NB332_335.out _).trans (((cell_far (p := ⟨gb335, _, none⟩) NB332_335.out _).trans (((cell_far (p := ⟨gb335, _, none⟩) NB332_335.out _).trans (((cell_far (p := ⟨gb335, _, none⟩) NB332_335.out _).trans (hHeld.2.1)))))))), ((cell_far (p := ⟨gb335, _, none⟩) NB332_335.out _).trans (((cell_far (p := ⟨gb335, _, none⟩) NB332_335.out _).trans (((cell_far (p := ⟨gb335, _, none⟩) NB332_335.out _).trans (((cell_far (p := ⟨gb335, _, none⟩) NB332_335.out _).trans (hHeld.2.2.1)))))))), ((cell_far (p := ⟨gb335, _, none⟩) NB332_335.out _).trans (((cell_far (p := ⟨gb335, _, none⟩) NB332_335.out _).trans (((cell_far (p := ⟨gb335, _, none⟩) NB332_335.out _).trans (((cell_far (p := ⟨gb335, _, none⟩) NB332_335.out _).trans (hHeld.2.2.2.1)))))))), ((cell_far (p := ⟨gb335, _, none⟩) NB332_335.out _).trans (((cell_far (p := ⟨gb335, _, none⟩) NB332_335.out _).trans (((cell_far (p := ⟨gb335, _, none⟩) NB332_335.out _).trans (((cell_far (p := ⟨gb335, _, none⟩) NB332_335.out _).trans (hHeld.2.2.2.2.1)))))))), ((cell_far (p := ⟨gb335, _, none⟩) (by first | exact ne_c hw333_0 GW335.out | exact ne_c2 hw333_0 GW335.out | (rw [add_block]; exact ne_c2 hw333_0 GW335.out) | (dsimp only; exact ne_c hw333_0 GW335.out)) _).trans (((cell_far (p := ⟨gb335, _, none⟩) (by first | exact ne_c hw333_0 GW335.out | exact ne_c2 hw333_0 GW335.out | (rw [add_block]; exact ne_c2 hw333_0 GW335.out) | (dsimp only; exact ne_c hw333_0 GW335.out)) _).trans (((cell_far (p := ⟨gb335, _, none⟩) (by first | exact ne_c hw333_0 GW335.out | exact ne_c2 hw333_0 GW335.out | (rw [add_block]; exact ne_c2 hw333_0 GW335.out) | (dsimp only; exact ne_c hw333_0 GW335.out)) _).trans (((cell_far (p := ⟨gb335, _, none⟩) (by first | exact ne_c hw333_0 GW335.out | exact ne_c2 hw333_0 GW335.out | (rw [add_block]; exact ne_c2 hw333_0 GW335.out) | (dsimp only; exact ne_c hw333_0 GW335.out)) _).trans (hHeld.2.2.2.2.2.1)))))))), ((cell_far (p := ⟨gb335, _, none⟩) (by first | exact ne_c hw334_0 GW335.out | exact ne_c2 hw334_0 GW335.out | (rw [add_block]; exact ne_c2 hw334_0 GW335.out) | (dsimp only; exact ne_c hw334_0 GW335.out)) _).trans (((cell_far (p := ⟨gb335, _, none⟩) (by first | exact ne_c hw334_0 GW335.out | exact ne_c2 hw334_0 GW335.out | (rw [add_block]; exact ne_c2 hw334_0 GW335.out) | (dsimp only; exact ne_c hw334_0 GW335.out)) _).trans (((cell_far (p := ⟨gb335, _, none⟩) (by first | exact ne_c hw334_0 GW335.out | exact ne_c2 hw334_0 GW335.out | (rw [add_block]; exact ne_c2 hw334_0 GW335.out) | (dsimp only; exact ne_c hw334_0 GW335.out)) _).trans (((cell_far (p := ⟨gb335, _, none⟩) (by first | exact ne_c hw334_0 GW335.out | exact ne_c2 hw334_0 GW335.out | (rw [add_block]; exact ne_c2 hw334_0 GW335.out) | (dsimp only; exact ne_c hw334_0 GW335.out)) _).trans (hHeld.2.2.2.2.2.2.1)))))))), ((cell_far (p := ⟨gb335, _, none⟩) (by first | exact ne_c hw334_1 GW335.out | exact ne_c2 hw334_1 GW335.out | (rw [add_block]; exact ne_c2 hw334_1 GW335.out) | (dsimp only; exact ne_c hw334_1 GW335.out)) _).trans (((cell_far (p := ⟨gb335, _, none⟩) (by first | exact ne_c hw334_1 GW335.out | exact ne_c2 hw334_1 GW335.out | (rw [add_block]; exact ne_c2 hw334_1 GW335.out) | (dsimp only; exact ne_c hw334_1 GW335.out)) _).trans (((cell_far (p := ⟨gb335, _, none⟩) (by first | exact ne_c hw334_1 GW335.out | exact ne_c2 hw334_1 GW335.out | (rw [add_block]; exact ne_c2 hw334_1 GW335.out) | (dsimp only; exact ne_c hw334_1 GW335.out)) _).trans (((cell_far (p := ⟨gb335, _, none⟩) (by first | exact ne_c hw334_1 GW335.out | exact ne_c2 hw334_1 GW335.out | (rw [add_block]; exact ne_c2 hw334_1 GW335.out) | (dsimp only; exact ne_c hw334_1 GW335.out)) _).trans (hHeld.2.2.2.2.2.2.2.1)))))))), ((cell_far (p := ⟨gb335, _, none⟩) (by first | exact ne_c hw334_2 GW335.out | exact ne_c2 hw334_2 GW335.out | (rw [add_block]; exact ne_c2 hw334_2 GW335.out) | (dsimp only; exact ne_c hw334_2 GW335.out)) _).trans (((cell_far (p := ⟨gb335, _, none⟩) (by first | exact ne_c hw334_2 GW335.out | exact ne_c2 hw334_2 GW335.out | (rw [add_block]; exact ne_c2 hw334_2 GW335.out) | (dsimp only; exact ne_c hw334_2 GW335.out)) _).trans (((cell_far (p := ⟨gb335, _, none⟩) (by first | exact ne_c hw334_2 GW335.out | exact ne_c2 hw334_2 GW335.out | (rw [add_block]; exact ne_c2 hw334_2 GW335.out) | (dsimp only; exact ne_c hw334_2 GW335.out)) _).trans (((cell_far (p := ⟨gb335, _, none⟩) (by first | exact ne_c hw334_2 GW335.out | exact ne_c2 hw334_2 GW335.out | (rw [add_block]; exact ne_c2 hw334_2 GW335.out) | (dsimp only; exact ne_c hw334_2 GW335.out)) _).trans (hHeld.2.2.2.2.2.2.2.2.1)))))))), ((cell_far (p := ⟨gb335, _, none⟩) (by first | exact ne_c hw334_3 GW335.out | exact ne_c2 hw334_3 GW335.out | (rw [add_block]; exact ne_c2 hw334_3 GW335.out) | (dsimp only; exact ne_c hw334_3 GW335.out)) _).trans (((cell_far (p := ⟨gb335, _, none⟩) (by first | exact ne_c hw334_3 GW335.out | exact ne_c2 hw334_3 GW335.out | (rw [add_block]; exact ne_c2 hw334_3 GW335.out) | (dsimp only; exact ne_c hw334_3 GW335.out)) _).trans (((cell_far (p := ⟨gb335, _, none⟩) (by first | exact ne_c hw334_3 GW335.out | exact ne_c2 hw334_3 GW335.out | (rw [add_block]; exact ne_c2 hw334_3 GW335.out) | (dsimp only; exact ne_c hw334_3 GW335.out)) _).trans (((cell_far (p := ⟨gb335, _, none⟩) (by first | exact ne_c hw334_3 GW335.out | exact ne_c2 hw334_3 GW335.out | (rw [add_block]; exact ne_c2 hw334_3 GW335.out) | (dsimp only; exact ne_c hw334_3 GW335.out)) _).trans (hHeld.2.2.2.2.2.2.2.2.2))))))))⟩ (fun hHeld => ?_)
                            clear hK K
                            refine done_ (done_of HT_.out (by kernel_rfl)) ?_
                            have hnb32 := NB335_330.out
                            have hnc32 := NB330_335.out
                            have hnb33 := NB335_332.out
                            have hnc33 := NB332_335.out
                            have hcz34_0 : w27.cell? ⟨gb335, 0, none⟩ = some (.int .i64 0) := (blk_cell BK335.out 0).trans rfl
                            have hcz34_1 : w27.cell? ⟨gb335, 1, none⟩ = some (.int .i64 0) := (blk_cell BK335.out 1).trans rfl
                            have hcz34_2 : w27.cell? ⟨gb335, 2, none⟩ = some (.int .i64 0) := (blk_cell BK335.out 2).trans rfl
                            have hcz34_3 : w27.cell? ⟨gb335, 3, none⟩ = some (.slice none 0 0) := (blk_cell BK335.out 3).trans rfl
                            have hfz34_0 := blk_frozen BK335.out 0
                            have hfz34_1 := blk_frozen BK335.out 1
                            have hfz34_2 := blk_frozen BK335.out 2
                            have hfz34_3 := blk_frozen BK335.out 3
                            try go_wp2
                            go_ret
                            exact ⟨by first | rfl | (simp [errW_none, errW_some, erT_no, erV_no, erT_at, erV_at] <;> rfl) | (simp [*, errW_none, errW_some, erT_no, erV_no, erT_at, erV_at] <;> rfl), by repeat (first | (with_reducible first | exact HB.out | apply below_alloc | apply pw_below_drewN | apply below_drew1 | refine below_set ?_ GE330.out | refine below_set ?_ GE332.out | refine below_set ?_ GE335.out) | exact HB.out)⟩
                          · rw [if_neg c23] at H
                            have c23b0 : decide (a2 < ((rd_T44 l0_0 (rd ((rd_T44 l0_0 a1).f3) x8_2)).f2)) = false := decide_eq_false c23
                            clear c23
                            have H' := Aside0.mk H
                            clear H
                            have hnb35 := NB332_330.out
                            have hnc35 := NB330_332.out
                            have hcz36_0 : wr.cell? ⟨gb332, 0, none⟩ = some (.int .i64 ((rd_T44 l0_0 a1).f0)) := (blk_cell BK332.out 0).trans rfl
                            have hcz36_1 : wr.cell? ⟨gb332, 1, none⟩ = some (.int .i64 ((rd_T44 l0_0 a1).f1)) := (blk_cell BK332.out 1).trans rfl
                            have hcz36_2 : wr.cell? ⟨gb332, 2, none⟩ = some (.int .i64 ((rd_T44 l0_0 a1).f2)) := (blk_cell BK332.out 2).trans rfl
                            have hcz36_3 : wr.cell? ⟨gb332, 3, none⟩ = some (.slice A331_3 ((rd_T44 l0_0 a1).f3).length c331_3) := (blk_cell BK332.out 3).trans rfl
                            have hfz36_0 := blk_frozen BK332.out 0
                            have hfz36_1 := blk_frozen BK332.out 1
                            have hfz36_2 := blk_frozen BK332.out 2
                            have hfz36_3 := blk_frozen BK332.out 3
                            try go_wp2
                            have n0_ := Aside0.mk (blk_drew BK330.out)
                            have n1_ := Aside0.mk (blk_drew BK332.out)
                            have n2_ := Aside0.mk (below_drew1 HB.out)
                            clear BK330
                            clear BK332
                            clear HB
                            have BK330 := n0_
                            have BK332 := n1_
                            have HB := n2_
                            clear n0_ n1_ n2_
                            have p333 : 0 ≤ (x8_2 : Int) := of_decide_eq_true (by first | (with_reducible assumption) | assumption)
                            have q333 : x8_2 < (((rd_T44 l0_0 a1).f3).length : Int) := of_decide_eq_true (by first | (with_reducible assumption) | assumption)
                            obtain ⟨ad333, e333, hx333_0⟩ := Kd.at_int HR331_3.out x8_2 p333 q333
                            have hw333_0 := hx333_0
                            cases e333
                            replace hx333_0 := (HB.out.cell (World.block_lt_of_cell? w _ hx333_0)).trans hx333_0
                            replace p333 := eq_true p333
                            replace q333 := eq_true q333
                            have p334 : 0 ≤ ((rd ((rd_T44 l0_0 a1).f3) x8_2) : Int) := of_decide_eq_true (by first | (with_reducible assumption) | assumption)
                            have q334 : (rd ((rd_T44 l0_0 a1).f3) x8_2) < (l0_0.length : Int) := of_decide_eq_true (by first | (with_reducible assumption) | assumption)
                            obtain ⟨ad334, A334_3, c334_3, e334, hx334_0, hx334_1, hx334_2, hx334_3, hl334_3, hi334_3⟩ := at_T44 HR0_0.out (rd ((rd_T44 l0_0 a1).f3) x8_2) p334 q334
                            have hw334_3 := hx334_3
                            have hw334_2 := hx334_2
                            have hw334_1 := hx334_1
                            have hw334_0 := hx334_0
                            obtain rfl : ad331 = ad334 := (by injection e334)
                            replace hx334_0 := (HB.out.cell (World.block_lt_of_cell? w _ hx334_0)).trans hx334_0
                            replace hx334_1 := (HB.out.cell (World.block_lt_of_cell? w _ hx334_1)).trans hx334_1
                            replace hx334_2 := (HB.out.cell (World.block_lt_of_cell? w _ hx334_2)).trans hx334_2
                            replace hx334_3 := (HB.out.cell (World.block_lt_of_cell? w _ hx334_3)).trans hx334_3
                            have HR334_3 := Aside0.mk hi334_3
                            have HC334_3 := Aside0.mk hl334_3
                            clear hi334_3 hl334_3
                            replace p334 := eq_true p334
                            replace q334 := eq_true q334
                            refine start_ (n := 11) (S := fun w' => w'.cell? ⟨gb330, 0, none⟩ = some (.slice (some ad331) l0_0.length c0_0) ∧ w'.cell? ⟨gb332, 0, none⟩ = some (.int .i64 ((rd_T44 l0_0 a1).f0)) ∧ w'.cell? ⟨gb332, 1, none⟩ = some (.int .i64 ((rd_T44 l0_0 a1).f1)) ∧ w'.cell? ⟨gb332, 2, none⟩ = some (.int .i64 ((rd_T44 l0_0 a1).f2)) ∧ w'.cell? ⟨gb332, 3, none⟩ = some (.slice (some ad333) ((rd_T44 l0_0 a1).f3).length c331_3) ∧ w'.cell? (ad333.add (x8_2).toNat) = some (.int .i64 (rd ((rd_T44 l0_0 a1).f3) x8_2)) ∧ w'.cell? (ad331.add (((rd ((rd_T44 l0_0 a1).f3) x8_2)).toNat * 4)) = some (.int .i64 ((rd_T44 l0_0 (rd ((rd_T44 l0_0 a1).f3) x8_2)).f0)) ∧ w'.cell? ⟨(ad331.add (((rd ((rd_T44 l0_0 a1).f3) x8_2)).toNat * 4)).block, (ad331.add (((rd ((rd_T44 l0_0 a1).f3) x8_2)).toNat * 4)).off + 1, none⟩ = some (.int .i64 ((rd_T44 l0_0 (rd ((rd_T44 l0_0 a1).f3) x8_2)).f1)) ∧ w'.cell? ⟨(ad331.add (((rd ((rd_T44 l0_0 a1).f3) x8_2)).toNat * 4)).block, (ad331.add (((rd ((rd_T44 l0_0 a1).f3) x8_2)).toNat * 4)).off + 2, none⟩ = some (.int .i64 ((rd_T44 l0_0 (rd ((rd_T44 l0_0 a1).f3) x8_2)).f2)) ∧ w'.cell? ⟨(ad331.add (((rd ((rd_T44 l0_0 a1).f3) x8_2)).toNat * 4)).block, (ad331.add (((rd ((rd_T44 l0_0 a1).f3) x8_2)).toNat * 4)).off + 3, none⟩ = some (.slice A334_3 ((rd_T44 l0_0 (rd ((rd_T44 l0_0 a1).f3) x8_2)).f3).length c334_3)) (ds := []) #[false, false, false, false, false, false, false, false, false, false, false] (by kernel_rfl) rfl rfl ⟨(blk_cell BK330.out 0).trans rfl, (blk_cell BK332.out 0).trans rfl, (blk_cell BK332.out 1).trans rfl, (blk_cell BK332.out 2).trans rfl, (blk_cell BK332.out 3).trans rfl, ((HB.out.cell (World.block_lt_of_cell? w _ hw333_0)).trans hw333_0), ((HB.out.cell (World.block_lt_of_cell? w _ hw334_0)).trans hw334_0), ((HB.out.cell (World.block_lt_of_cell? w _ hw334_1)).trans hw334_1), ((HB.out.cell (World.block_lt_of_cell? w _ hw334_2)).trans hw334_2), ((HB.out.cell (World.block_lt_of_cell? w _ hw334_3)).trans hw334_3)⟩ (fun hHeld => ?_); refine with_tabW cavilref13_Owns.tab7 cavilref13_Owns.bits7 (fun HT_ HW_ => ?_)
                            generalize wr.drew = w37 at BK330 BK332 HB HR334_3 hx333_0 hx334_0 hx334_1 hx334_2 hx334_3 hHeld ⊢
                            refine pure_ (i := 0) (N := some 32) (v := ?_) (a' := ?_) #[true, false, false, false, false, false, false, false, false, false, false] rfl rfl (any_of HT_.out (by kernel_rfl)) (fun _ _ _ h => h) (Or.inl ⟨by rfl, ?_⟩) ?_ ?_; rotate_left; { intro w'; go_simp; with_reducible rfl }; rotate_left; { simp only [Act.put, List.setIfInBounds_toArray, List.set_cons_zero, List.set_cons_succ, i64_w, i32_w]; rfl }
                            refine pure_ (i := 2) (N := some 34) (v := ?_) (a' := ?_) #[true, false, true, false, false, false, false, false, false, false, false] rfl rfl (any_of HT_.out (by kernel_rfl)) (fun _ _ _ h => h) (Or.inl ⟨by rfl, ?_⟩) ?_ ?_; rotate_left; { intro w'; go_simp; with_reducible rfl }; rotate_left; { simp only [Act.put, List.setIfInBounds_toArray, List.set_cons_zero, List.set_cons_succ, i64_w, i32_w]; rfl }
                            refine pure_ (i := 4) (N := some 36) (v := ?_) (a' := ?_) #[true, false, true, false, true, false, false, false, false, false, false] rfl rfl (any_of HT_.out (by kernel_rfl)) (fun _ _ _ h => h) (Or.inl ⟨by rfl, ?_⟩) ?_ ?_; rotate_left; { intro w'; go_simp; with_reducible rfl }; rotate_left; { simp only [Act.put, List.setIfInBounds_toArray, List.set_cons_zero, List.set_cons_succ, i64_w, i32_w]; rfl }
                            refine take_ (i := 1) (N := some 33) (v := ?_) (a' := ?_) #[true, true, true, false, true, false, false, false, false, false, false] rfl rfl (take_ofW HT_.out HW_.out (by kernel_rfl)) (fun _ _ _ h => h) (Or.inl ⟨by rfl, ?_⟩) hHeld ?_ ?_; rotate_left; { rintro w' ⟨s0, s1, s2, s3, s4, s5, s6, s7, s8, s9⟩; go_simp; with_reducible rfl }; rotate_left; { simp only [Act.put, List.setIfInBounds_toArray, List.set_cons_zero, List.set_cons_succ, i64_w, i32_w]; rfl }
                            refine take_ (i := 3) (N := some 35) (v := ?_) (a' := ?_) #[true, true, true, true, true, false, false, false, false, false, false] rfl rfl (take_ofW HT_.out HW_.out (by kernel_rfl)) (fun _ _ _ h => h) (Or.inl ⟨by rfl, ?_⟩) hHeld ?_ ?_; rotate_left; { rintro w' ⟨s0, s1, s2, s3, s4, s5, s6, s7, s8, s9⟩; go_simp; with_reducible rfl }; rotate_left; { simp only [Act.put, List.setIfInBounds_toArray, List.set_cons_zero, List.set_cons_succ, i64_w, i32_w]; rfl }
                            refine pure_ (i := 5) (N := some 37) (v := ?_) (a' := ?_) #[true, true, true, true, true, true, false, false, false, false, false] rfl rfl (any_of HT_.out (by kernel_rfl)) (fun _ _ _ h => h) (Or.inl ⟨by rfl, ?_⟩) ?_ ?_; rotate_left; { intro w'; go_simp; with_reducible rfl }; rotate_left; { simp only [Act.put, List.setIfInBounds_toArray, List.set_cons_zero, List.set_cons_succ, i64_w, i32_w]; rfl }
                            refine take_ (i := 6) (N := some 38) (v := ?_) (a' := ?_) #[true, true, true, true, true, true, true, false, false, false, false] rfl rfl (take_ofW HT_.out HW_.out (by kernel_rfl)) (fun _ _ _ h => h) (Or.inl ⟨by rfl, ?_⟩) hHeld ?_ ?_; rotate_left; { rintro w' ⟨s0, s1, s2, s3, s4, s5, s6, s7, s8, s9⟩; go_simp; with_reducible rfl }; rotate_left; { simp only [Act.put, List.setIfInBounds_toArray, List.set_cons_zero, List.set_cons_succ, i64_w, i32_w]; rfl }
                            refine pure_ (i := 7) (N := some 39) (v := ?_) (a' := ?_) #[true, true, true, true, true, true, true, true, false, false, false] rfl rfl (any_of HT_.out (by kernel_rfl)) (fun _ _ _ h => h) (Or.inl ⟨by rfl, ?_⟩) ?_ ?_; rotate_left; { intro w'; go_simp; with_reducible rfl }; rotate_left; { simp only [Act.put, List.setIfInBounds_toArray, List.set_cons_zero, List.set_cons_succ, i64_w, i32_w]; rfl }
                            refine take_ (i := 8) (N := some 40) (v := ?_) (a' := ?_) #[true, true, true, true, true, true, true, true, true, false, false] rfl rfl (take_ofW HT_.out HW_.out (by kernel_rfl)) (fun _ _ _ h => h) (Or.inl ⟨by rfl, ?_⟩) hHeld ?_ ?_; rotate_left; { rintro w' ⟨s0, s1, s2, s3, s4, s5, s6, s7, s8, s9⟩; go_simp; with_reducible rfl }; rotate_left; { simp only [Act.put, List.setIfInBounds_toArray, List.set_cons_zero, List.set_cons_succ, i64_w, i32_w]; rfl }
                            refine one_ (i := 9) (N := some 9) #[true, true, true, true, true, true, true, true, true, true, false] rfl rfl (one_of HT_.out (by kernel_rfl)) (by decide) (fun K hK => ?_)
                            refine box_step ?hg (N := 9) ?hd (cs := #[.int .i64 0, .int .i64 0, .int .i64 0, .slice none 0 0]) (t := 44) ?hr ?_; (case hd => rfl); (case hg => rfl); (case hr => first | (go_simp; done) | (go_simp; rfl))
                            intro gb335 hg w38 hbox hb
                            have n0_ := Aside0.mk (blk_below (g := gb330) (o := .cells #[.slice (some ad331) l0_0.length c0_0] 26 (0, 0)) (by (with_reducible repeat (first | refine blk_drewN ?_ _ | refine blk_drew ?_ | refine blk_alloc ?_ _)); exact BK330.out) hb)
                            have n1_ := Aside0.mk (blk_below (g := gb332) (o := .cells #[.int .i64 ((rd_T44 l0_0 a1).f0), .int .i64 ((rd_T44 l0_0 a1).f1), .int .i64 ((rd_T44 l0_0 a1).f2), .slice (some ad333) ((rd_T44 l0_0 a1).f3).length c331_3] 44 (0, 0)) (by (with_reducible repeat (first | refine blk_drewN ?_ _ | refine blk_drew ?_ | refine blk_alloc ?_ _)); exact BK332.out) hb)
                            have n2_ := Aside0.mk (below_step (by repeat (first | (with_reducible first | exact HB.out | apply below_alloc | apply pw_below_drewN | apply below_drew1 | refine below_set ?_ GE330.out | refine below_set ?_ GE332.out) | exact HB.out)) hb)
                            have n3_ := Aside0.mk (hbox)
                            have n4_ := Aside0.mk ((by rw [hg]; exact (below_size (by repeat (first | (with_reducible first | exact HB.out | apply below_alloc | apply pw_below_drewN | apply below_drew1 | refine below_set ?_ GE330.out | refine below_set ?_ GE332.out) | exact HB.out))) : w.heap.size ≤ gb335))
                            have n5_ := Aside0.mk ((by rw [hg]; exact (below_size (by repeat (first | (with_reducible first | exact HB.out | apply below_alloc | apply pw_below_drewN | apply below_drew1 | refine below_set ?_ GE330.out | refine below_set ?_ GE332.out) | exact HB.out))) : w.heap.size ≤ gb335))
                            have n6_ := Aside0.mk ((by rw [hg]; exact Nat.ne_of_lt (blk_lt (g := gb330) (o := .cells #[.slice (some ad331) l0_0.length c0_0] 26 (0, 0)) (by (with_reducible repeat (first | refine blk_drewN ?_ _ | refine blk_drew ?_ | refine blk_alloc ?_ _)); exact BK330.out)) : gb330 ≠ gb335))
                            have n7_ := Aside0.mk ((by rw [hg]; exact Nat.ne_of_gt (blk_lt (g := gb330) (o := .cells #[.slice (some ad331) l0_0.length c0_0] 26 (0, 0)) (by (with_reducible repeat (first | refine blk_drewN ?_ _ | refine blk_drew ?_ | refine blk_alloc ?_ _)); exact BK330.out)) : gb335 ≠ gb330))
                            have n8_ := Aside0.mk ((by rw [hg]; exact Nat.ne_of_lt (blk_lt (g := gb332) (o := .cells #[.int .i64 ((rd_T44 l0_0 a1).f0), .int .i64 ((rd_T44 l0_0 a1).f1), .int .i64 ((rd_T44 l0_0 a1).f2), .slice (some ad333) ((rd_T44 l0_0 a1).f3).length c331_3] 44 (0, 0)) (by (with_reducible repeat (first | refine blk_drewN ?_ _ | refine blk_drew ?_ | refine blk_alloc ?_ _)); exact BK332.out)) : gb332 ≠ gb335))
                            have n9_ := Aside0.mk ((by rw [hg]; exact Nat.ne_of_gt (blk_lt (g := gb332) (o := .cells #[.int .i64 ((rd_T44 l0_0 a1).f0), .int .i64 ((rd_T44 l0_0 a1).f1), .int .i64 ((rd_T44 l0_0 a1).f2), .slice (some ad333) ((rd_T44 l0_0 a1).f3).length c331_3] 44 (0, 0)) (by (with_reducible repeat (first | refine blk_drewN ?_ _ | refine blk_drew ?_ | refine blk_alloc ?_ _)); exact BK332.out)) : gb335 ≠ gb332))
                            clear BK330
                            clear BK332
                            clear HB
                            have BK330 := n0_
                            have BK332 := n1_
                            have HB := n2_
                            have BK335 := n3_
                            have GW335 := n4_
                            have GE335 := n5_
                            have NB330_335 := n6_
                            have NB335_330 := n7_
                            have NB332_335 := n8_
                            have NB335_332 := n9_
                            clear n0_ n1_ n2_ n3_ n4_ n5_ n6_ n7_ n8_ n9_
                            clear hb hbox hg
                            refine hK.out _ _ ⟨(blk_cell BK330.out 0).trans rfl, (blk_cell BK332.out 0).trans rfl, (blk_cell BK332.out 1).trans rfl, (blk_cell BK332.out 2).trans rfl, (blk_cell BK332.out 3).trans rfl, ((HB.out.cell (World.block_lt_of_cell? w _ hw333_0)).trans hw333_0), ((HB.out.cell (World.block_lt_of_cell? w _ hw334_0)).trans hw334_0), ((HB.out.cell (World.block_lt_of_cell? w _ hw334_1)).trans hw334_1), ((HB.out.cell (World.block_lt_of_cell? w _ hw334_2)).trans hw334_2), ((HB.out.cell (World.block_lt_of_cell? w _ hw334_3)).trans hw334_3)⟩ (fun hHeld => ?_)
                            clear hK K
                            refine norm_ (a' := ?_) ?_ ?_; rotate_left; { show Act.put _ (some 9) _ = _; simp only [Act.put, List.setIfInBounds_toArray, List.set_cons_zero, List.set_cons_succ, i64_w, i32_w]; rfl }
                            refine one_ (i := 10) (N := none) #[true, true, true, true, true, true, true, true, true, true, true] rfl rfl (one_of HT_.out (by kernel_rfl)) (by decide) (fun K hK => ?_)
                            have hs39 : w38.cell? ⟨gb335, 0, none⟩ = some (.int .i64 0) := (blk_cell BK335.out 0).trans rfl
                            have hfs39 := blk_frozen BK335.out 0
                            have hns39_0 := NB330_335.out
                            have hns39_1 := NB332_335.out
                            have hms39_0 := NB335_330.out
                            have hms39_1 := NB335_332.out
                            have hs40 : w38.cell? ⟨gb335, 1, none⟩ = some (.int .i64 0) := (blk_cell BK335.out 1).trans rfl
                            have hfs40 := blk_frozen BK335.out 1
                            have hns40_0 := NB330_335.out
                            have hns40_1 := NB332_335.out
                            have hms40_0 := NB335_330.out
                            have hms40_1 := NB335_332.out
                            have hs41 : w38.cell? ⟨gb335, 2, none⟩ = some (.int .i64 0) := (blk_cell BK335.out 2).trans rfl
                            have hfs41 := blk_frozen BK335.out 2
                            have hns41_0 := NB330_335.out
                            have hns41_1 := NB332_335.out
                            have hms41_0 := NB335_330.out
                            have hms41_1 := NB335_332.out
                            have hs42 : w38.cell? ⟨gb335, 3, none⟩ = some (.slice none 0 0) := (blk_cell BK335.out 3).trans rfl
                            have hfs42 := blk_frozen BK335.out 3
                            have hns42_0 := NB330_335.out
                            have hns42_1 := NB332_335.out
                            have hms42_0 := NB335_330.out
                            have hms42_1 := NB335_332.out
                            refine skip_ (w1 := ?_) (by rfl) rfl ?_ ?_; rotate_left; { go_simp; rfl }
                            refine hK.out _ _ ⟨((cell_far (p := ⟨gb335, _, none⟩) NB330_335.out _).trans (((cell_far (p := ⟨gb335, _, none⟩) NB330_335.out _).trans (((cell_far (p := ⟨gb335, _, none⟩) NB330_335.out _).trans (((cell_far (p := ⟨gb335, _, none⟩) NB330_335.out _).trans (hHeld.1)))))))), ((cell_far (p := ⟨gb335, _, none⟩) NB332_335.out _).trans (((cell_far (p := ⟨gb335, _, none⟩) NB332_335.out _).trans (((cell_far (p := ⟨gb335, _, none⟩) NB332_335.out _).trans (((cell_far (p := ⟨gb335, _, none⟩) NB332_335.out _).trans (hHeld.2.1)))))))), ((cell_far (p := ⟨gb335, _, none⟩) NB332_335.out _).trans (((cell_far (p := ⟨gb335, _, none⟩) NB332_335.out _).trans (((cell_far (p := ⟨gb335, _, none⟩) NB332_335.out _).trans (((cell_far (p := ⟨gb335, _, none⟩) NB332_335.out _).trans (hHeld.2.2.1)))))))), ((cell_far (p := ⟨gb335, _, none⟩) NB332_335.out _).trans (((cell_far (p := ⟨gb335, _, none⟩) NB332_335.out _).trans (((cell_far (p := ⟨gb335, _, none⟩) NB332_335.out _).trans (((cell_far (p := ⟨gb335, _, none⟩) NB332_335.out _).trans (hHeld.2.2.2.1)))))))), ((cell_far (p := ⟨gb335, _, none⟩) NB332_335.out _).trans (((cell_far (p := ⟨gb335, _, none⟩) NB332_335.out _).trans (((cell_far (p := ⟨gb335, _, none⟩) NB332_335.out _).trans (((cell_far (p := ⟨gb335, _, none⟩) NB332_335.out _).trans (hHeld.2.2.2.2.1)))))))), ((cell_far (p := ⟨gb335, _, none⟩) (by first | exact ne_c hw333_0 GW335.out | exact ne_c2 hw333_0 GW335.out | (rw [add_block]; exact ne_c2 hw333_0 GW335.out) | (dsimp only; exact ne_c hw333_0 GW335.out)) _).trans (((cell_far (p := ⟨gb335, _, none⟩) (by first | exact ne_c hw333_0 GW335.out | exact ne_c2 hw333_0 GW335.out | (rw [add_block]; exact ne_c2 hw333_0 GW335.out) | (dsimp only; exact ne_c hw333_0 GW335.out)) _).trans (((cell_far (p := ⟨gb335, _, none⟩) (by first | exact ne_c hw333_0 GW335.out | exact ne_c2 hw333_0 GW335.out | (rw [add_block]; exact ne_c2 hw333_0 GW335.out) | (dsimp only; exact ne_c hw333_0 GW335.out)) _).trans (((cell_far (p := ⟨gb335, _, none⟩) (by first | exact ne_c hw333_0 GW335.out | exact ne_c2 hw333_0 GW335.out | (rw [add_block]; exact ne_c2 hw333_0 GW335.out) | (dsimp only; exact ne_c hw333_0 GW335.out)) _).trans (hHeld.2.2.2.2.2.1)))))))), ((cell_far (p := ⟨gb335, _, none⟩) (by first | exact ne_c hw334_0 GW335.out | exact ne_c2 hw334_0 GW335.out | (rw [add_block]; exact ne_c2 hw334_0 GW335.out) | (dsimp only; exact ne_c hw334_0 GW335.out)) _).trans (((cell_far (p := ⟨gb335, _, none⟩) (by first | exact ne_c hw334_0 GW335.out | exact ne_c2 hw334_0 GW335.out | (rw [add_block]; exact ne_c2 hw334_0 GW335.out) | (dsimp only; exact ne_c hw334_0 GW335.out)) _).trans (((cell_far (p := ⟨gb335, _, none⟩) (by first | exact ne_c hw334_0 GW335.out | exact ne_c2 hw334_0 GW335.out | (rw [add_block]; exact ne_c2 hw334_0 GW335.out) | (dsimp only; exact ne_c hw334_0 GW335.out)) _).trans (((cell_far (p := ⟨gb335, _, none⟩) (by first | exact ne_c hw334_0 GW335.out | exact ne_c2 hw334_0 GW335.out | (rw [add_block]; exact ne_c2 hw334_0 GW335.out) | (dsimp only; exact ne_c hw334_0 GW335.out)) _).trans (hHeld.2.2.2.2.2.2.1)))))))), ((cell_far (p := ⟨gb335, _, none⟩) (by first | exact ne_c hw334_1 GW335.out | exact ne_c2 hw334_1 GW335.out | (rw [add_block]; exact ne_c2 hw334_1 GW335.out) | (dsimp only; exact ne_c hw334_1 GW335.out)) _).trans (((cell_far (p := ⟨gb335, _, none⟩) (by first | exact ne_c hw334_1 GW335.out | exact ne_c2 hw334_1 GW335.out | (rw [add_block]; exact ne_c2 hw334_1 GW335.out) | (dsimp only; exact ne_c hw334_1 GW335.out)) _).trans (((cell_far (p := ⟨gb335, _, none⟩) (by first | exact ne_c hw334_1 GW335.out | exact ne_c2 hw334_1 GW335.out | (rw [add_block]; exact ne_c2 hw334_1 GW335.out) | (dsimp only; exact ne_c hw334_1 GW335.out)) _).trans (((cell_far (p := ⟨gb335, _, none⟩) (by first | exact ne_c hw334_1 GW335.out | exact ne_c2 hw334_1 GW335.out | (rw [add_block]; exact ne_c2 hw334_1 GW335.out) | (dsimp only; exact ne_c hw334_1 GW335.out)) _).trans (hHeld.2.2.2.2.2.2.2.1)))))))), ((cell_far (p := ⟨gb335, _, none⟩) (by first | exact ne_c hw334_2 GW335.out | exact ne_c2 hw334_2 GW335.out | (rw [add_block]; exact ne_c2 hw334_2 GW335.out) | (dsimp only; exact ne_c hw334_2 GW335.out)) _).trans (((cell_far (p := ⟨gb335, _, none⟩) (by first | exact ne_c hw334_2 GW335.out | exact ne_c2 hw334_2 GW335.out | (rw [add_block]; exact ne_c2 hw334_2 GW335.out) | (dsimp only; exact ne_c hw334_2 GW335.out)) _).trans (((cell_far (p := ⟨gb335, _, none⟩) (by first | exact ne_c hw334_2 GW335.out | exact ne_c2 hw334_2 GW335.out | (rw [add_block]; exact ne_c2 hw334_2 GW335.out) | (dsimp only; exact ne_c hw334_2 GW335.out)) _).trans (((cell_far (p := ⟨gb335, _, none⟩) (by first | exact ne_c hw334_2 GW335.out | exact ne_c2 hw334_2 GW335.out | (rw [add_block]; exact ne_c2 hw334_2 GW335.out) | (dsimp only; exact ne_c hw334_2 GW335.out)) _).trans (hHeld.2.2.2.2.2.2.2.2.1)))))))), ((cell_far (p := ⟨gb335, _, none⟩) (by first | exact ne_c hw334_3 GW335.out | exact ne_c2 hw334_3 GW335.out | (rw [add_block]; exact ne_c2 hw334_3 GW335.out) | (dsimp only; exact ne_c hw334_3 GW335.out)) _).trans (((cell_far (p := ⟨gb335, _, none⟩) (by first | exact ne_c hw334_3 GW335.out | exact ne_c2 hw334_3 GW335.out | (rw [add_block]; exact ne_c2 hw334_3 GW335.out) | (dsimp only; exact ne_c hw334_3 GW335.out)) _).trans (((cell_far (p := ⟨gb335, _, none⟩) (by first | exact ne_c hw334_3 GW335.out | exact ne_c2 hw334_3 GW335.out | (rw [add_block]; exact ne_c2 hw334_3 GW335.out) | (dsimp only; exact ne_c hw334_3 GW335.out)) _).trans (((cell_far (p := ⟨gb335, _, none⟩) (by first | exact ne_c hw334_3 GW335.out | exact ne_c2 hw334_3 GW335.out | (rw [add_block]; exact ne_c2 hw334_3 GW335.out) | (dsimp only; exact ne_c hw334_3 GW335.out)) _).trans (hHeld.2.2.2.2.2.2.2.2.2))))))))⟩ (fun hHeld => ?_)
                            clear hK K
                            refine done_ (done_of HT_.out (by kernel_rfl)) ?_
                            have hnb43 := NB335_330.out
                            have hnc43 := NB330_335.out
                            have hnb44 := NB335_332.out
                            have hnc44 := NB332_335.out
                            have hcz45_0 : w38.cell? ⟨gb335, 0, none⟩ = some (.int .i64 0) := (blk_cell BK335.out 0).trans rfl
                            have hcz45_1 : w38.cell? ⟨gb335, 1, none⟩ = some (.int .i64 0) := (blk_cell BK335.out 1).trans rfl
                            have hcz45_2 : w38.cell? ⟨gb335, 2, none⟩ = some (.int .i64 0) := (blk_cell BK335.out 2).trans rfl
                            have hcz45_3 : w38.cell? ⟨gb335, 3, none⟩ = some (.slice none 0 0) := (blk_cell BK335.out 3).trans rfl
                            have hfz45_0 := blk_frozen BK335.out 0
                            have hfz45_1 := blk_frozen BK335.out 1
                            have hfz45_2 := blk_frozen BK335.out 2
                            have hfz45_3 := blk_frozen BK335.out 3
                            try go_wp2
                            go_roundg k2
                            case measure => have := HJ5.out; have := HK2.out; omega
                            case rel => exact ⟨(wrap64 (x8_2 + 1)), (by first | rfl | (simp; done) | (simp [*]; done)), H', ⟨by have := HJ5.out; have := HK2.out; omega⟩, ⟨by (with_reducible repeat (first | refine blk_drewN ?_ _ | refine blk_drew ?_ | refine blk_alloc ?_ _)); refine blk_far ?_ NB330_335.out _; (with_reducible repeat (first | refine blk_drewN ?_ _ | refine blk_drew ?_ | refine blk_alloc ?_ _)); refine blk_far ?_ NB330_335.out _; (with_reducible repeat (first | refine blk_drewN ?_ _ | refine blk_drew ?_ | refine blk_alloc ?_ _)); refine blk_far ?_ NB330_335.out _; (with_reducible repeat (first | refine blk_drewN ?_ _ | refine blk_drew ?_ | refine blk_alloc ?_ _)); refine blk_far ?_ NB330_335.out _; (with_reducible repeat (first | refine blk_drewN ?_ _ | refine blk_drew ?_ | refine blk_alloc ?_ _)); exact BK330.out⟩, ⟨by (with_reducible repeat (first | refine blk_drewN ?_ _ | refine blk_drew ?_ | refine blk_alloc ?_ _)); refine blk_far ?_ NB332_335.out _; (with_reducible repeat (first | refine blk_drewN ?_ _ | refine blk_drew ?_ | refine blk_alloc ?_ _)); refine blk_far ?_ NB332_335.out _; (with_reducible repeat (first | refine blk_drewN ?_ _ | refine blk_drew ?_ | refine blk_alloc ?_ _)); refine blk_far ?_ NB332_335.out _; (with_reducible repeat (first | refine blk_drewN ?_ _ | refine blk_drew ?_ | refine blk_alloc ?_ _)); refine blk_far ?_ NB332_335.out _; (with_reducible repeat (first | refine blk_drewN ?_ _ | refine blk_drew ?_ | refine blk_alloc ?_ _)); exact BK332.out⟩, ⟨by repeat (first | (with_reducible first | exact HB.out | apply below_alloc | apply pw_below_drewN | apply below_drew1 | refine below_set ?_ GE330.out | refine below_set ?_ GE332.out | refine below_set ?_ GE335.out) | exact HB.out)⟩⟩
                        · rw [if_neg c22] at H
                          have c22b0 : decide (((rd_T44 l0_0 (rd ((rd_T44 l0_0 a1).f3) x8_2)).f1) ≤ a2) = false := decide_eq_false c22
                          clear c22
                          have H' := Aside0.mk H
                          clear H
                          have hnb46 := NB332_330.out
                          have hnc46 := NB330_332.out
                          have hcz47_0 : wr.cell? ⟨gb332, 0, none⟩ = some (.int .i64 ((rd_T44 l0_0 a1).f0)) := (blk_cell BK332.out 0).trans rfl
                          have hcz47_1 : wr.cell? ⟨gb332, 1, none⟩ = some (.int .i64 ((rd_T44 l0_0 a1).f1)) := (blk_cell BK332.out 1).trans rfl
                          have hcz47_2 : wr.cell? ⟨gb332, 2, none⟩ = some (.int .i64 ((rd_T44 l0_0 a1).f2)) := (blk_cell BK332.out 2).trans rfl
                          have hcz47_3 : wr.cell? ⟨gb332, 3, none⟩ = some (.slice A331_3 ((rd_T44 l0_0 a1).f3).length c331_3) := (blk_cell BK332.out 3).trans rfl
                          have hfz47_0 := blk_frozen BK332.out 0
                          have hfz47_1 := blk_frozen BK332.out 1
                          have hfz47_2 := blk_frozen BK332.out 2
                          have hfz47_3 := blk_frozen BK332.out 3
                          try go_wp2
                          have n0_ := Aside0.mk (blk_drew BK330.out)
                          have n1_ := Aside0.mk (blk_drew BK332.out)
                          have n2_ := Aside0.mk (below_drew1 HB.out)
                          clear BK330
                          clear BK332
                          clear HB
                          have BK330 := n0_
                          have BK332 := n1_
                          have HB := n2_
                          clear n0_ n1_ n2_
                          have p333 : 0 ≤ (x8_2 : Int) := of_decide_eq_true (by first | (with_reducible assumption) | assumption)
                          have q333 : x8_2 < (((rd_T44 l0_0 a1).f3).length : Int) := of_decide_eq_true (by first | (with_reducible assumption) | assumption)
                          obtain ⟨ad333, e333, hx333_0⟩ := Kd.at_int HR331_3.out x8_2 p333 q333
                          have hw333_0 := hx333_0
                          cases e333
                          replace hx333_0 := (HB.out.cell (World.block_lt_of_cell? w _ hx333_0)).trans hx333_0
                          replace p333 := eq_true p333
                          replace q333 := eq_true q333
                          have p334 : 0 ≤ ((rd ((rd_T44 l0_0 a1).f3) x8_2) : Int) := of_decide_eq_true (by first | (with_reducible assumption) | assumption)
                          have q334 : (rd ((rd_T44 l0_0 a1).f3) x8_2) < (l0_0.length : Int) := of_decide_eq_true (by first | (with_reducible assumption) | assumption)
                          obtain ⟨ad334, A334_3, c334_3, e334, hx334_0, hx334_1, hx334_2, hx334_3, hl334_3, hi334_3⟩ := at_T44 HR0_0.out (rd ((rd_T44 l0_0 a1).f3) x8_2) p334 q334
                          have hw334_3 := hx334_3
                          have hw334_2 := hx334_2
                          have hw334_1 := hx334_1
                          have hw334_0 := hx334_0
                          obtain rfl : ad331 = ad334 := (by injection e334)
                          replace hx334_0 := (HB.out.cell (World.block_lt_of_cell? w _ hx334_0)).trans hx334_0
                          replace hx334_1 := (HB.out.cell (World.block_lt_of_cell? w _ hx334_1)).trans hx334_1
                          replace hx334_2 := (HB.out.cell (World.block_lt_of_cell? w _ hx334_2)).trans hx334_2
                          replace hx334_3 := (HB.out.cell (World.block_lt_of_cell? w _ hx334_3)).trans hx334_3
                          have HR334_3 := Aside0.mk hi334_3
                          have HC334_3 := Aside0.mk hl334_3
                          clear hi334_3 hl334_3
                          replace p334 := eq_true p334
                          replace q334 := eq_true q334
                          refine start_ (n := 11) (S := fun w' => w'.cell? ⟨gb330, 0, none⟩ = some (.slice (some ad331) l0_0.length c0_0) ∧ w'.cell? ⟨gb332, 0, none⟩ = some (.int .i64 ((rd_T44 l0_0 a1).f0)) ∧ w'.cell? ⟨gb332, 1, none⟩ = some (.int .i64 ((rd_T44 l0_0 a1).f1)) ∧ w'.cell? ⟨gb332, 2, none⟩ = some (.int .i64 ((rd_T44 l0_0 a1).f2)) ∧ w'.cell? ⟨gb332, 3, none⟩ = some (.slice (some ad333) ((rd_T44 l0_0 a1).f3).length c331_3) ∧ w'.cell? (ad333.add (x8_2).toNat) = some (.int .i64 (rd ((rd_T44 l0_0 a1).f3) x8_2)) ∧ w'.cell? (ad331.add (((rd ((rd_T44 l0_0 a1).f3) x8_2)).toNat * 4)) = some (.int .i64 ((rd_T44 l0_0 (rd ((rd_T44 l0_0 a1).f3) x8_2)).f0)) ∧ w'.cell? ⟨(ad331.add (((rd ((rd_T44 l0_0 a1).f3) x8_2)).toNat * 4)).block, (ad331.add (((rd ((rd_T44 l0_0 a1).f3) x8_2)).toNat * 4)).off + 1, none⟩ = some (.int .i64 ((rd_T44 l0_0 (rd ((rd_T44 l0_0 a1).f3) x8_2)).f1)) ∧ w'.cell? ⟨(ad331.add (((rd ((rd_T44 l0_0 a1).f3) x8_2)).toNat * 4)).block, (ad331.add (((rd ((rd_T44 l0_0 a1).f3) x8_2)).toNat * 4)).off + 2, none⟩ = some (.int .i64 ((rd_T44 l0_0 (rd ((rd_T44 l0_0 a1).f3) x8_2)).f2)) ∧ w'.cell? ⟨(ad331.add (((rd ((rd_T44 l0_0 a1).f3) x8_2)).toNat * 4)).block, (ad331.add (((rd ((rd_T44 l0_0 a1).f3) x8_2)).toNat * 4)).off + 3, none⟩ = some (.slice A334_3 ((rd_T44 l0_0 (rd ((rd_T44 l0_0 a1).f3) x8_2)).f3).length c334_3)) (ds := []) #[false, false, false, false, false, false, false, false, false, false, false] (by kernel_rfl) rfl rfl ⟨(blk_cell BK330.out 0).trans rfl, (blk_cell BK332.out 0).trans rfl, (blk_cell BK332.out 1).trans rfl, (blk_cell BK332.out 2).trans rfl, (blk_cell BK332.out 3).trans rfl, ((HB.out.cell (World.block_lt_of_cell? w _ hw333_0)).trans hw333_0), ((HB.out.cell (World.block_lt_of_cell? w _ hw334_0)).trans hw334_0), ((HB.out.cell (World.block_lt_of_cell? w _ hw334_1)).trans hw334_1), ((HB.out.cell (World.block_lt_of_cell? w _ hw334_2)).trans hw334_2), ((HB.out.cell (World.block_lt_of_cell? w _ hw334_3)).trans hw334_3)⟩ (fun hHeld => ?_); refine with_tabW cavilref13_Owns.tab7 cavilref13_Owns.bits7 (fun HT_ HW_ => ?_)
                          generalize wr.drew = w48 at BK330 BK332 HB HR334_3 hx333_0 hx334_0 hx334_1 hx334_2 hx334_3 hHeld ⊢
                          refine pure_ (i := 0) (N := some 32) (v := ?_) (a' := ?_) #[true, false, false, false, false, false, false, false, false, false, false] rfl rfl (any_of HT_.out (by kernel_rfl)) (fun _ _ _ h => h) (Or.inl ⟨by rfl, ?_⟩) ?_ ?_; rotate_left; { intro w'; go_simp; with_reducible rfl }; rotate_left; { simp only [Act.put, List.setIfInBounds_toArray, List.set_cons_zero, List.set_cons_succ, i64_w, i32_w]; rfl }
                          refine pure_ (i := 2) (N := some 34) (v := ?_) (a' := ?_) #[true, false, true, false, false, false, false, false, false, false, false] rfl rfl (any_of HT_.out (by kernel_rfl)) (fun _ _ _ h => h) (Or.inl ⟨by rfl, ?_⟩) ?_ ?_; rotate_left; { intro w'; go_simp; with_reducible rfl }; rotate_left; { simp only [Act.put, List.setIfInBounds_toArray, List.set_cons_zero, List.set_cons_succ, i64_w, i32_w]; rfl }
                          refine pure_ (i := 4) (N := some 36) (v := ?_) (a' := ?_) #[true, false, true, false, true, false, false, false, false, false, false] rfl rfl (any_of HT_.out (by kernel_rfl)) (fun _ _ _ h => h) (Or.inl ⟨by rfl, ?_⟩) ?_ ?_; rotate_left; { intro w'; go_simp; with_reducible rfl }; rotate_left; { simp only [Act.put, List.setIfInBounds_toArray, List.set_cons_zero, List.set_cons_succ, i64_w, i32_w]; rfl }
                          refine take_ (i := 1) (N := some 33) (v := ?_) (a' := ?_) #[true, true, true, false, true, false, false, false, false, false, false] rfl rfl (take_ofW HT_.out HW_.out (by kernel_rfl)) (fun _ _ _ h => h) (Or.inl ⟨by rfl, ?_⟩) hHeld ?_ ?_; rotate_left; { rintro w' ⟨s0, s1, s2, s3, s4, s5, s6, s7, s8, s9⟩; go_simp; with_reducible rfl }; rotate_left; { simp only [Act.put, List.setIfInBounds_toArray, List.set_cons_zero, List.set_cons_succ, i64_w, i32_w]; rfl }
                          refine take_ (i := 3) (N := some 35) (v := ?_) (a' := ?_) #[true, true, true, true, true, false, false, false, false, false, false] rfl rfl (take_ofW HT_.out HW_.out (by kernel_rfl)) (fun _ _ _ h => h) (Or.inl ⟨by rfl, ?_⟩) hHeld ?_ ?_; rotate_left; { rintro w' ⟨s0, s1, s2, s3, s4, s5, s6, s7, s8, s9⟩; go_simp; with_reducible rfl }; rotate_left; { simp only [Act.put, List.setIfInBounds_toArray, List.set_cons_zero, List.set_cons_succ, i64_w, i32_w]; rfl }
                          refine pure_ (i := 5) (N := some 37) (v := ?_) (a' := ?_) #[true, true, true, true, true, true, false, false, false, false, false] rfl rfl (any_of HT_.out (by kernel_rfl)) (fun _ _ _ h => h) (Or.inl ⟨by rfl, ?_⟩) ?_ ?_; rotate_left; { intro w'; go_simp; with_reducible rfl }; rotate_left; { simp only [Act.put, List.setIfInBounds_toArray, List.set_cons_zero, List.set_cons_succ, i64_w, i32_w]; rfl }
                          refine take_ (i := 6) (N := some 38) (v := ?_) (a' := ?_) #[true, true, true, true, true, true, true, false, false, false, false] rfl rfl (take_ofW HT_.out HW_.out (by kernel_rfl)) (fun _ _ _ h => h) (Or.inl ⟨by rfl, ?_⟩) hHeld ?_ ?_; rotate_left; { rintro w' ⟨s0, s1, s2, s3, s4, s5, s6, s7, s8, s9⟩; go_simp; with_reducible rfl }; rotate_left; { simp only [Act.put, List.setIfInBounds_toArray, List.set_cons_zero, List.set_cons_succ, i64_w, i32_w]; rfl }
                          refine pure_ (i := 7) (N := some 39) (v := ?_) (a' := ?_) #[true, true, true, true, true, true, true, true, false, false, false] rfl rfl (any_of HT_.out (by kernel_rfl)) (fun _ _ _ h => h) (Or.inl ⟨by rfl, ?_⟩) ?_ ?_; rotate_left; { intro w'; go_simp; with_reducible rfl }; rotate_left; { simp only [Act.put, List.setIfInBounds_toArray, List.set_cons_zero, List.set_cons_succ, i64_w, i32_w]; rfl }
                          refine take_ (i := 8) (N := some 40) (v := ?_) (a' := ?_) #[true, true, true, true, true, true, true, true, true, false, false] rfl rfl (take_ofW HT_.out HW_.out (by kernel_rfl)) (fun _ _ _ h => h) (Or.inl ⟨by rfl, ?_⟩) hHeld ?_ ?_; rotate_left; { rintro w' ⟨s0, s1, s2, s3, s4, s5, s6, s7, s8, s9⟩; go_simp; with_reducible rfl }; rotate_left; { simp only [Act.put, List.setIfInBounds_toArray, List.set_cons_zero, List.set_cons_succ, i64_w, i32_w]; rfl }
                          refine one_ (i := 9) (N := some 9) #[true, true, true, true, true, true, true, true, true, true, false] rfl rfl (one_of HT_.out (by kernel_rfl)) (by decide) (fun K hK => ?_)
                          refine box_step ?hg (N := 9) ?hd (cs := #[.int .i64 0, .int .i64 0, .int .i64 0, .slice none 0 0]) (t := 44) ?hr ?_; (case hd => rfl); (case hg => rfl); (case hr => first | (go_simp; done) | (go_simp; rfl))
                          intro gb335 hg w49 hbox hb
                          have n0_ := Aside0.mk (blk_below (g := gb330) (o := .cells #[.slice (some ad331) l0_0.length c0_0] 26 (0, 0)) (by (with_reducible repeat (first | refine blk_drewN ?_ _ | refine blk_drew ?_ | refine blk_alloc ?_ _)); exact BK330.out) hb)
                          have n1_ := Aside0.mk (blk_below (g := gb332) (o := .cells #[.int .i64 ((rd_T44 l0_0 a1).f0), .int .i64 ((rd_T44 l0_0 a1).f1), .int .i64 ((rd_T44 l0_0 a1).f2), .slice (some ad333) ((rd_T44 l0_0 a1).f3).length c331_3] 44 (0, 0)) (by (with_reducible repeat (first | refine blk_drewN ?_ _ | refine blk_drew ?_ | refine blk_alloc ?_ _)); exact BK332.out) hb)
                          have n2_ := Aside0.mk (below_step (by repeat (first | (with_reducible first | exact HB.out | apply below_alloc | apply pw_below_drewN | apply below_drew1 | refine below_set ?_ GE330.out | refine below_set ?_ GE332.out) | exact HB.out)) hb)
                          have n3_ := Aside0.mk (hbox)
                          have n4_ := Aside0.mk ((by rw [hg]; exact (below_size (by repeat (first | (with_reducible first | exact HB.out | apply below_alloc | apply pw_below_drewN | apply below_drew1 | refine below_set ?_ GE330.out | refine below_set ?_ GE332.out) | exact HB.out))) : w.heap.size ≤ gb335))
                          have n5_ := Aside0.mk ((by rw [hg]; exact (below_size (by repeat (first | (with_reducible first | exact HB.out | apply below_alloc | apply pw_below_drewN | apply below_drew1 | refine below_set ?_ GE330.out | refine below_set ?_ GE332.out) | exact HB.out))) : w.heap.size ≤ gb335))
                          have n6_ := Aside0.mk ((by rw [hg]; exact Nat.ne_of_lt (blk_lt (g := gb330) (o := .cells #[.slice (some ad331) l0_0.length c0_0] 26 (0, 0)) (by (with_reducible repeat (first | refine blk_drewN ?_ _ | refine blk_drew ?_ | refine blk_alloc ?_ _)); exact BK330.out)) : gb330 ≠ gb335))
                          have n7_ := Aside0.mk ((by rw [hg]; exact Nat.ne_of_gt (blk_lt (g := gb330) (o := .cells #[.slice (some ad331) l0_0.length c0_0] 26 (0, 0)) (by (with_reducible repeat (first | refine blk_drewN ?_ _ | refine blk_drew ?_ | refine blk_alloc ?_ _)); exact BK330.out)) : gb335 ≠ gb330))
                          have n8_ := Aside0.mk ((by rw [hg]; exact Nat.ne_of_lt (blk_lt (g := gb332) (o := .cells #[.int .i64 ((rd_T44 l0_0 a1).f0), .int .i64 ((rd_T44 l0_0 a1).f1), .int .i64 ((rd_T44 l0_0 a1).f2), .slice (some ad333) ((rd_T44 l0_0 a1).f3).length c331_3] 44 (0, 0)) (by (with_reducible repeat (first | refine blk_drewN ?_ _ | refine blk_drew ?_ | refine blk_alloc ?_ _)); exact BK332.out)) : gb332 ≠ gb335))
                          have n9_ := Aside0.mk ((by rw [hg]; exact Nat.ne_of_gt (blk_lt (g := gb332) (o := .cells #[.int .i64 ((rd_T44 l0_0 a1).f0), .int .i64 ((rd_T44 l0_0 a1).f1), .int .i64 ((rd_T44 l0_0 a1).f2), .slice (some ad333) ((rd_T44 l0_0 a1).f3).length c331_3] 44 (0, 0)) (by (with_reducible repeat (first | refine blk_drewN ?_ _ | refine blk_drew ?_ | refine blk_alloc ?_ _)); exact BK332.out)) : gb335 ≠ gb332))
                          clear BK330
                          clear BK332
                          clear HB
                          have BK330 := n0_
                          have BK332 := n1_
                          have HB := n2_
                          have BK335 := n3_
                          have GW335 := n4_
                          have GE335 := n5_
                          have NB330_335 := n6_
                          have NB335_330 := n7_
                          have NB332_335 := n8_
                          have NB335_332 := n9_
                          clear n0_ n1_ n2_ n3_ n4_ n5_ n6_ n7_ n8_ n9_
                          clear hb hbox hg
                          refine hK.out _ _ ⟨(blk_cell BK330.out 0).trans rfl, (blk_cell BK332.out 0).trans rfl, (blk_cell BK332.out 1).trans rfl, (blk_cell BK332.out 2).trans rfl, (blk_cell BK332.out 3).trans rfl, ((HB.out.cell (World.block_lt_of_cell? w _ hw333_0)).trans hw333_0), ((HB.out.cell (World.block_lt_of_cell? w _ hw334_0)).trans hw334_0), ((HB.out.cell (World.block_lt_of_cell? w _ hw334_1)).trans hw334_1), ((HB.out.cell (World.block_lt_of_cell? w _ hw334_2)).trans hw334_2), ((HB.out.cell (World.block_lt_of_cell? w _ hw334_3)).trans hw334_3)⟩ (fun hHeld => ?_)
                          clear hK K
                          refine norm_ (a' := ?_) ?_ ?_; rotate_left; { show Act.put _ (some 9) _ = _; simp only [Act.put, List.setIfInBounds_toArray, List.set_cons_zero, List.set_cons_succ, i64_w, i32_w]; rfl }
                          refine one_ (i := 10) (N := none) #[true, true, true, true, true, true, true, true, true, true, true] rfl rfl (one_of HT_.out (by kernel_rfl)) (by decide) (fun K hK => ?_)
                          have hs50 : w49.cell? ⟨gb335, 0, none⟩ = some (.int .i64 0) := (blk_cell BK335.out 0).trans rfl
                          have hfs50 := blk_frozen BK335.out 0
                          have hns50_0 := NB330_335.out
                          have hns50_1 := NB332_335.out
                          have hms50_0 := NB335_330.out
                          have hms50_1 := NB335_332.out
                          have hs51 : w49.cell? ⟨gb335, 1, none⟩ = some (.int .i64 0) := (blk_cell BK335.out 1).trans rfl
                          have hfs51 := blk_frozen BK335.out 1
                          have hns51_0 := NB330_335.out
                          have hns51_1 := NB332_335.out
                          have hms51_0 := NB335_330.out
                          have hms51_1 := NB335_332.out
                          have hs52 : w49.cell? ⟨gb335, 2, none⟩ = some (.int .i64 0) := (blk_cell BK335.out 2).trans rfl
                          have hfs52 := blk_frozen BK335.out 2
                          have hns52_0 := NB330_335.out
                          have hns52_1 := NB332_335.out
                          have hms52_0 := NB335_330.out
                          have hms52_1 := NB335_332.out
                          have hs53 : w49.cell? ⟨gb335, 3, none⟩ = some (.slice none 0 0) := (blk_cell BK335.out 3).trans rfl
                          have hfs53 := blk_frozen BK335.out 3
                          have hns53_0 := NB330_335.out
                          have hns53_1 := NB332_335.out
                          have hms53_0 := NB335_330.out
                          have hms53_1 := NB335_332.out
                          refine skip_ (w1 := ?_) (by rfl) rfl ?_ ?_; rotate_left; { go_simp; rfl }
                          refine hK.out _ _ ⟨((cell_far (p := ⟨gb335, _, none⟩) NB330_335.out _).trans (((cell_far (p := ⟨gb335, _, none⟩) NB330_335.out _).trans (((cell_far (p := ⟨gb335, _, none⟩) NB330_335.out _).trans (((cell_far (p := ⟨gb335, _, none⟩) NB330_335.out _).trans (hHeld.1)))))))), ((cell_far (p := ⟨gb335, _, none⟩) NB332_335.out _).trans (((cell_far (p := ⟨gb335, _, none⟩) NB332_335.out _).trans (((cell_far (p := ⟨gb335, _, none⟩) NB332_335.out _).trans (((cell_far (p := ⟨gb335, _, none⟩) NB332_335.out _).trans (hHeld.2.1)))))))), ((cell_far (p := ⟨gb335, _, none⟩) NB332_335.out _).trans (((cell_far (p := ⟨gb335, _, none⟩) NB332_335.out _).trans (((cell_far (p := ⟨gb335, _, none⟩) NB332_335.out _).trans (((cell_far (p := ⟨gb335, _, none⟩) NB332_335.out _).trans (hHeld.2.2.1)))))))), ((cell_far (p := ⟨gb335, _, none⟩) NB332_335.out _).trans (((cell_far (p := ⟨gb335, _, none⟩) NB332_335.out _).trans (((cell_far (p := ⟨gb335, _, none⟩) NB332_335.out _).trans (((cell_far (p := ⟨gb335, _, none⟩) NB332_335.out _).trans (hHeld.2.2.2.1)))))))), ((cell_far (p := ⟨gb335, _, none⟩) NB332_335.out _).trans (((cell_far (p := ⟨gb335, _, none⟩) NB332_335.out _).trans (((cell_far (p := ⟨gb335, _, none⟩) NB332_335.out _).trans (((cell_far (p := ⟨gb335, _, none⟩) NB332_335.out _).trans (hHeld.2.2.2.2.1)))))))), ((cell_far (p := ⟨gb335, _, none⟩) (by first | exact ne_c hw333_0 GW335.out | exact ne_c2 hw333_0 GW335.out | (rw [add_block]; exact ne_c2 hw333_0 GW335.out) | (dsimp only; exact ne_c hw333_0 GW335.out)) _).trans (((cell_far (p := ⟨gb335, _, none⟩) (by first | exact ne_c hw333_0 GW335.out | exact ne_c2 hw333_0 GW335.out | (rw [add_block]; exact ne_c2 hw333_0 GW335.out) | (dsimp only; exact ne_c hw333_0 GW335.out)) _).trans (((cell_far (p := ⟨gb335, _, none⟩) (by first | exact ne_c hw333_0 GW335.out | exact ne_c2 hw333_0 GW335.out | (rw [add_block]; exact ne_c2 hw333_0 GW335.out) | (dsimp only; exact ne_c hw333_0 GW335.out)) _).trans (((cell_far (p := ⟨gb335, _, none⟩) (by first | exact ne_c hw333_0 GW335.out | exact ne_c2 hw333_0 GW335.out | (rw [add_block]; exact ne_c2 hw333_0 GW335.out) | (dsimp only; exact ne_c hw333_0 GW335.out)) _).trans (hHeld.2.2.2.2.2.1)))))))), ((cell_far (p := ⟨gb335, _, none⟩) (by first | exact ne_c hw334_0 GW335.out | exact ne_c2 hw334_0 GW335.out | (rw [add_block]; exact ne_c2 hw334_0 GW335.out) | (dsimp only; exact ne_c hw334_0 GW335.out)) _).trans (((cell_far (p := ⟨gb335, _, none⟩) (by first | exact ne_c hw334_0 GW335.out | exact ne_c2 hw334_0 GW335.out | (rw [add_block]; exact ne_c2 hw334_0 GW335.out) | (dsimp only; exact ne_c hw334_0 GW335.out)) _).trans (((cell_far (p := ⟨gb335, _, none⟩) (by first | exact ne_c hw334_0 GW335.out | exact ne_c2 hw334_0 GW335.out | (rw [add_block]; exact ne_c2 hw334_0 GW335.out) | (dsimp only; exact ne_c hw334_0 GW335.out)) _).trans (((cell_far (p := ⟨gb335, _, none⟩) (by first | exact ne_c hw334_0 GW335.out | exact ne_c2 hw334_0 GW335.out | (rw [add_block]; exact ne_c2 hw334_0 GW335.out) | (dsimp only; exact ne_c hw334_0 GW335.out)) _).trans (hHeld.2.2.2.2.2.2.1)))))))), ((cell_far (p := ⟨gb335, _, none⟩) (by first | exact ne_c hw334_1 GW335.out | exact ne_c2 hw334_1 GW335.out | (rw [add_block]; exact ne_c2 hw334_1 GW335.out) | (dsimp only; exact ne_c hw334_1 GW335.out)) _).trans (((cell_far (p := ⟨gb335, _, none⟩) (by first | exact ne_c hw334_1 GW335.out | exact ne_c2 hw334_1 GW335.out | (rw [add_block]; exact ne_c2 hw334_1 GW335.out) | (dsimp only; exact ne_c hw334_1 GW335.out)) _).trans (((cell_far (p := ⟨gb335, _, none⟩) (by first | exact ne_c hw334_1 GW335.out | exact ne_c2 hw334_1 GW335.out | (rw [add_block]; exact ne_c2 hw334_1 GW335.out) | (dsimp only; exact ne_c hw334_1 GW335.out)) _).trans (((cell_far (p := ⟨gb335, _, none⟩) (by first | exact ne_c hw334_1 GW335.out | exact ne_c2 hw334_1 GW335.out | (rw [add_block]; exact ne_c2 hw334_1 GW335.out) | (dsimp only; exact ne_c hw334_1 GW335.out)) _).trans (hHeld.2.2.2.2.2.2.2.1)))))))), ((cell_far (p := ⟨gb335, _, none⟩) (by first | exact ne_c hw334_2 GW335.out | exact ne_c2 hw334_2 GW335.out | (rw [add_block]; exact ne_c2 hw334_2 GW335.out) | (dsimp only; exact ne_c hw334_2 GW335.out)) _).trans (((cell_far (p := ⟨gb335, _, none⟩) (by first | exact ne_c hw334_2 GW335.out | exact ne_c2 hw334_2 GW335.out | (rw [add_block]; exact ne_c2 hw334_2 GW335.out) | (dsimp only; exact ne_c hw334_2 GW335.out)) _).trans (((cell_far (p := ⟨gb335, _, none⟩) (by first | exact ne_c hw334_2 GW335.out | exact ne_c2 hw334_2 GW335.out | (rw [add_block]; exact ne_c2 hw334_2 GW335.out) | (dsimp only; exact ne_c hw334_2 GW335.out)) _).trans (((cell_far (p := ⟨gb335, _, none⟩) (by first | exact ne_c hw334_2 GW335.out | exact ne_c2 hw334_2 GW335.out | (rw [add_block]; exact ne_c2 hw334_2 GW335.out) | (dsimp only; exact ne_c hw334_2 GW335.out)) _).trans (hHeld.2.2.2.2.2.2.2.2.1)))))))), ((cell_far (p := ⟨gb335, _, none⟩) (by first | exact ne_c hw334_3 GW335.out | exact ne_c2 hw334_3 GW335.out | (rw [add_block]; exact ne_c2 hw334_3 GW335.out) | (dsimp only; exact ne_c hw334_3 GW335.out)) _).trans (((cell_far (p := ⟨gb335, _, none⟩) (by first | exact ne_c hw334_3 GW335.out | exact ne_c2 hw334_3 GW335.out | (rw [add_block]; exact ne_c2 hw334_3 GW335.out) | (dsimp only; exact ne_c hw334_3 GW335.out)) _).trans (((cell_far (p := ⟨gb335, _, none⟩) (by first | exact ne_c hw334_3 GW335.out | exact ne_c2 hw334_3 GW335.out | (rw [add_block]; exact ne_c2 hw334_3 GW335.out) | (dsimp only; exact ne_c hw334_3 GW335.out)) _).trans (((cell_far (p := ⟨gb335, _, none⟩) (by first | exact ne_c hw334_3 GW335.out | exact ne_c2 hw334_3 GW335.out | (rw [add_block]; exact ne_c2 hw334_3 GW335.out) | (dsimp only; exact ne_c hw334_3 GW335.out)) _).trans (hHeld.2.2.2.2.2.2.2.2.2))))))))⟩ (fun hHeld => ?_)
                          clear hK K
                          refine done_ (done_of HT_.out (by kernel_rfl)) ?_
                          have hnb54 := NB335_330.out
                          have hnc54 := NB330_335.out
                          have hnb55 := NB335_332.out
                          have hnc55 := NB332_335.out
                          have hcz56_0 : w49.cell? ⟨gb335, 0, none⟩ = some (.int .i64 0) := (blk_cell BK335.out 0).trans rfl
                          have hcz56_1 : w49.cell? ⟨gb335, 1, none⟩ = some (.int .i64 0) := (blk_cell BK335.out 1).trans rfl
                          have hcz56_2 : w49.cell? ⟨gb335, 2, none⟩ = some (.int .i64 0) := (blk_cell BK335.out 2).trans rfl
                          have hcz56_3 : w49.cell? ⟨gb335, 3, none⟩ = some (.slice none 0 0) := (blk_cell BK335.out 3).trans rfl
                          have hfz56_0 := blk_frozen BK335.out 0
                          have hfz56_1 := blk_frozen BK335.out 1
                          have hfz56_2 := blk_frozen BK335.out 2
                          have hfz56_3 := blk_frozen BK335.out 3
                          try go_wp2
                          go_roundg k2
                          case measure => have := HJ5.out; have := HK2.out; omega
                          case rel => exact ⟨(wrap64 (x8_2 + 1)), (by first | rfl | (simp; done) | (simp [*]; done)), H', ⟨by have := HJ5.out; have := HK2.out; omega⟩, ⟨by (with_reducible repeat (first | refine blk_drewN ?_ _ | refine blk_drew ?_ | refine blk_alloc ?_ _)); refine blk_far ?_ NB330_335.out _; (with_reducible repeat (first | refine blk_drewN ?_ _ | refine blk_drew ?_ | refine blk_alloc ?_ _)); refine blk_far ?_ NB330_335.out _; (with_reducible repeat (first | refine blk_drewN ?_ _ | refine blk_drew ?_ | refine blk_alloc ?_ _)); refine blk_far ?_ NB330_335.out _; (with_reducible repeat (first | refine blk_drewN ?_ _ | refine blk_drew ?_ | refine blk_alloc ?_ _)); refine blk_far ?_ NB330_335.out _; (with_reducible repeat (first | refine blk_drewN ?_ _ | refine blk_drew ?_ | refine blk_alloc ?_ _)); exact BK330.out⟩, ⟨by (with_reducible repeat (first | refine blk_drewN ?_ _ | refine blk_drew ?_ | refine blk_alloc ?_ _)); refine blk_far ?_ NB332_335.out _; (with_reducible repeat (first | refine blk_drewN ?_ _ | refine blk_drew ?_ | refine blk_alloc ?_ _)); refine blk_far ?_ NB332_335.out _; (with_reducible repeat (first | refine blk_drewN ?_ _ | refine blk_drew ?_ | refine blk_alloc ?_ _)); refine blk_far ?_ NB332_335.out _; (with_reducible repeat (first | refine blk_drewN ?_ _ | refine blk_drew ?_ | refine blk_alloc ?_ _)); refine blk_far ?_ NB332_335.out _; (with_reducible repeat (first | refine blk_drewN ?_ _ | refine blk_drew ?_ | refine blk_alloc ?_ _)); exact BK332.out⟩, ⟨by repeat (first | (with_reducible first | exact HB.out | apply below_alloc | apply pw_below_drewN | apply below_drew1 | refine below_set ?_ GE330.out | refine below_set ?_ GE332.out | refine below_set ?_ GE335.out) | exact HB.out)⟩⟩
                      · rw [if_neg c21] at H
                        exact absurd H (by simp)
                    · rw [if_neg c20] at H
                      exact absurd H (by simp)
                  · rw [if_neg c19] at H
                    exact absurd H (by simp)
                · rw [if_neg c18] at H
                  have c18b0 : decide (x8_2 < (((rd_T44 l0_0 a1).f3).length : Int)) = false := decide_eq_false c18
                  clear c18
                  obtain rfl := Option.some.inj H
                  have hnb57 := NB332_330.out
                  have hnc57 := NB330_332.out
                  have hcz58_0 : wr.cell? ⟨gb332, 0, none⟩ = some (.int .i64 ((rd_T44 l0_0 a1).f0)) := (blk_cell BK332.out 0).trans rfl
                  have hcz58_1 : wr.cell? ⟨gb332, 1, none⟩ = some (.int .i64 ((rd_T44 l0_0 a1).f1)) := (blk_cell BK332.out 1).trans rfl
                  have hcz58_2 : wr.cell? ⟨gb332, 2, none⟩ = some (.int .i64 ((rd_T44 l0_0 a1).f2)) := (blk_cell BK332.out 2).trans rfl
                  have hcz58_3 : wr.cell? ⟨gb332, 3, none⟩ = some (.slice A331_3 ((rd_T44 l0_0 a1).f3).length c331_3) := (blk_cell BK332.out 3).trans rfl
                  have hfz58_0 := blk_frozen BK332.out 0
                  have hfz58_1 := blk_frozen BK332.out 1
                  have hfz58_2 := blk_frozen BK332.out 2
                  have hfz58_3 := blk_frozen BK332.out 3
                  go_wp2
                  go_ret
                  exact ⟨by first | rfl | (simp [errW_none, errW_some, erT_no, erV_no, erT_at, erV_at] <;> rfl) | (simp [*, errW_none, errW_some, erT_no, erV_no, erT_at, erV_at] <;> rfl), by repeat (first | (with_reducible first | exact HB.out | apply below_alloc | apply pw_below_drewN | apply below_drew1 | refine below_set ?_ GE330.out | refine below_set ?_ GE332.out) | exact HB.out)⟩
    · rw [if_neg c5] at H
      exact absurd H (by simp)
  · rw [if_neg c4] at H
    exact absurd H (by simp)

end Go.Proofs.Ytnpgadfoohjlnaa.QV
