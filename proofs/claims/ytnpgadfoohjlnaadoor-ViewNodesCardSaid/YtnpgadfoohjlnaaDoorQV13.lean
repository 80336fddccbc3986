/- Where a Lean function of this text answers, the Go function of its name comes to that answer: no other condition. Written by a program of this session out of the translation; Lean checks it. -/
import Derived.Test.YtnpgadfoohjlnaaDoorQV0
namespace Go.Proofs.YtnpgadfoohjlnaaDoor.QV
open Go.RowKit Go.Proofs.YtnpgadfoohjlnaaDoorW.PrintWords Go.Proofs.YtnpgadfoohjlnaaDoorW.PrintLast Go.Proofs.YtnpgadfoohjlnaaDoorW.PrintMore Go.Proofs.YtnpgadfoohjlnaaDoorW.PrintX
attribute [local go_sem] max2_int min2_int max_two min_two max_three min_three max_four min_four   -- for this text's walks alone
set_option linter.unusedVariables false
set_option linter.unusedSimpArgs false

/-! ### cavilref13_Owns: function 60 -/
mutual
def cavilref13_Owns.j0 : Nat → Int → Bool → List (S33) → Int → Int → Int → List Int → Option (Bool)
 | 0, _, _, _, _, _, _, _ => none
 | k + 1, x2, x24, x276000, x278000, x278001, x278002, x278003 => if x24 = true then (some false) else (cavilref13_Owns.l0 k x2 0 x276000 x278000 x278001 x278002 x278003)
def cavilref13_Owns.l0 : Nat → Int → Int → List (S33) → Int → Int → Int → List Int → Option (Bool)
 | 0, _, _, _, _, _, _, _ => none
 | k + 1, x2, x8, x276000, x278000, x278001, x278002, x278003 => if x8 < (x278003.length : Int) then (if 0 ≤ x8 then (if 0 ≤ (rd x278003 x8) then (if (rd x278003 x8) < (x276000.length : Int) then (if x2 ≥ ((rd_T33 x276000 (rd x278003 x8)).f1) then (if x2 < ((rd_T33 x276000 (rd x278003 x8)).f2) then (some false) else (cavilref13_Owns.l0 k x2 (wrap64 (x8 + 1)) x276000 x278000 x278001 x278002 x278003)) else (cavilref13_Owns.l0 k x2 (wrap64 (x8 + 1)) x276000 x278000 x278001 x278002 x278003)) else (none)) else (none)) else (none)) else (some true)
end
def cavilref13_Owns.f (k : Nat) (l0_0 : List (S33)) (a1 : Int) (a2 : Int) : Option (Bool) := if 0 ≤ a1 then (if a1 < (l0_0.length : Int) then (if a2 < ((rd_T33 l0_0 a1).f1) then (cavilref13_Owns.j0 k a2 true l0_0 ((rd_T33 l0_0 a1).f0) ((rd_T33 l0_0 a1).f1) ((rd_T33 l0_0 a1).f2) ((rd_T33 l0_0 a1).f3)) else (cavilref13_Owns.j0 k a2 (decide (a2 ≥ ((rd_T33 l0_0 a1).f2))) l0_0 ((rd_T33 l0_0 a1).f0) ((rd_T33 l0_0 a1).f1) ((rd_T33 l0_0 a1).f2) ((rd_T33 l0_0 a1).f3))) else (none)) else (none)
theorem cavilref13_Owns.mono_l : ∀ k, (∀ y0 y1 y2 y3 y4 y5 y6, LeO (cavilref13_Owns.j0 k y0 y1 y2 y3 y4 y5 y6) (cavilref13_Owns.j0 (k + 1) y0 y1 y2 y3 y4 y5 y6)) ∧ (∀ y0 y1 y2 y3 y4 y5 y6, LeO (cavilref13_Owns.l0 k y0 y1 y2 y3 y4 y5 y6) (cavilref13_Owns.l0 (k + 1) y0 y1 y2 y3 y4 y5 y6))
 | 0 => ⟨fun _ _ _ _ _ _ _ r h => by simp [cavilref13_Owns.j0] at h, fun _ _ _ _ _ _ _ r h => by simp [cavilref13_Owns.l0] at h⟩
 | k + 1 => by
  obtain ⟨ih0, ih1⟩ := cavilref13_Owns.mono_l k
  refine ⟨?_, ?_⟩
  ·intro y0 y1 y2 y3 y4 y5 y6
   unfold cavilref13_Owns.j0
   repeat' first
   | (with_reducible exact ih0 _ _ _ _ _ _ _)
   | (with_reducible exact ih1 _ _ _ _ _ _ _)
   | (with_reducible exact LeO.refl _)
   | (with_reducible exact LeO.none _)
   | (with_reducible refine LeO.ite ?_ ?_)
   | (with_reducible refine LeO.bind ?_ (fun _ => ?_))
   | exact ih0 _ _ _ _ _ _ _
   | exact ih1 _ _ _ _ _ _ _
   | exact LeO.none _
   | refine LeO.ite ?_ ?_
   | refine LeO.bind ?_ (fun _ => ?_)
  ·intro y0 y1 y2 y3 y4 y5 y6
   unfold cavilref13_Owns.l0
   repeat' first
   | (with_reducible exact ih0 _ _ _ _ _ _ _)
   | (with_reducible exact ih1 _ _ _ _ _ _ _)
   | (with_reducible exact LeO.refl _)
   | (with_reducible exact LeO.none _)
   | (with_reducible refine LeO.ite ?_ ?_)
   | (with_reducible refine LeO.bind ?_ (fun _ => ?_))
   | exact ih0 _ _ _ _ _ _ _
   | exact ih1 _ _ _ _ _ _ _
   | exact LeO.none _
   | refine LeO.ite ?_ ?_
   | refine LeO.bind ?_ (fun _ => ?_)
theorem cavilref13_Owns.mono : ∀ a0 a1 a2 k, LeO (cavilref13_Owns.f k a0 a1 a2) (cavilref13_Owns.f (k + 1) a0 a1 a2) := by
 intro a0 a1 a2 k
 obtain ⟨ih0, ih1⟩ := cavilref13_Owns.mono_l k
 unfold cavilref13_Owns.f
 repeat' first
   | (with_reducible exact ih0 _ _ _ _ _ _ _)
   | (with_reducible exact ih1 _ _ _ _ _ _ _)
   | (with_reducible exact LeO.refl _)
   | (with_reducible exact LeO.none _)
   | (with_reducible refine LeO.ite ?_ ?_)
   | (with_reducible refine LeO.bind ?_ (fun _ => ?_))
   | exact ih0 _ _ _ _ _ _ _
   | exact ih1 _ _ _ _ _ _ _
   | exact LeO.none _
   | refine LeO.ite ?_ ?_
   | refine LeO.bind ?_ (fun _ => ?_)
def cavilref13_Owns.T7 : Bool × List (List Nat × List Nat) := (true, [([], []), ([0], [0]), ([], []), ([2], [2]), ([], []), ([3, 4], [3, 4]), ([5], [5]), ([1, 6], [1, 6]), ([7], [7]), ([], []), ([9, 8, 0, 1, 2, 3, 4, 5, 6, 7, 8, 9], [8, 9])])
def cavilref13_Owns.B7 : List Nat := [0, 1, 0, 4, 0, 28, 60, 127, 255, 0, 1023]
theorem cavilref13_Owns.tab7 : rtab .any (opsOf Tryd.f60 7) = cavilref13_Owns.T7 := by kernel_rfl
theorem cavilref13_Owns.bits7 : waitsOk cavilref13_Owns.T7.2 cavilref13_Owns.B7 = true := by kernel_rfl
set_option maxHeartbeats 8000000 in
set_option maxRecDepth 100000 in
theorem cavilref13_Owns.calls (k : Nat) (A0_0 : Option Addr) (c0_0 : Nat) (l0_0 : List (S33)) (a1 : Int) (a2 : Int) (r : Bool) (w : World) (hr0_0 : Kd.C k33 w A0_0 l0_0.length l0_0) (hc0_0 : l0_0.length ≤ c0_0) (h : cavilref13_Owns.f k l0_0 a1 a2 = some r) :
  Calls Tryd.prog 60 #[.agg #[.slice A0_0 l0_0.length c0_0], .int .i64 a1, .int .i64 a2] w fun e w' => e = .returned (.bool r) ∧ Below w.heap.size w w' := by
 have hu24 := Tryd.underlying24
 have hu33 := Tryd.underlying33
 have HR0_0 := Aside0.mk hr0_0
 have HC0_0 := Aside0.mk hc0_0
 clear hr0_0 hc0_0
 have HB := Aside0.mk (Below.refl w.heap.size w)
 have H : (if 0 ≤ a1 then (if a1 < (l0_0.length : Int) then (if a2 < ((rd_T33 l0_0 a1).f1) then (cavilref13_Owns.j0 k a2 true l0_0 ((rd_T33 l0_0 a1).f0) ((rd_T33 l0_0 a1).f1) ((rd_T33 l0_0 a1).f2) ((rd_T33 l0_0 a1).f3)) else (cavilref13_Owns.j0 k a2 (decide (a2 ≥ ((rd_T33 l0_0 a1).f2))) l0_0 ((rd_T33 l0_0 a1).f0) ((rd_T33 l0_0 a1).f1) ((rd_T33 l0_0 a1).f2) ((rd_T33 l0_0 a1).f3))) else (none)) else (none)) = some r := h
 clear h
 by_cases c4 : 0 ≤ a1
 ·rw [if_pos c4] at H
  have c4b0 : decide (0 ≤ a1) = true := decide_eq_true c4
  clear c4
  by_cases c5 : a1 < (l0_0.length : Int)
  ·rw [if_pos c5] at H
   have c5b0 : decide (a1 < (l0_0.length : Int)) = true := decide_eq_true c5
   clear c5
   have HC6 := Aside0.mk H
   clear H
   go_enter Tryd.func60, Tryd.ntmps60
   go_upto_region 2 with (first | ((with_reducible refine gate_dst (N := 3) rfl ?_); refine box_event ?hg (N := 3) ?hd (cs := #[.slice A0_0 l0_0.length c0_0]) (t := 24) ?hr ?_; (case hd => rfl); (case hg => rfl); (case hr => first | (go_simp; done) | (go_simp; rfl)); intro gb275 hg w7 hbox hb; have n0_ := Aside0.mk (below_step (go_b HB.out) hb); have n1_ := Aside0.mk (hbox); have n2_ := Aside0.mk ((by rw [hg]; exact (below_size (go_b HB.out)) : w.heap.size ≤ gb275)); have n3_ := n2_; clear HB; have HB := n0_; have BK275 := n1_; have GW275 := n2_; have GE275 := n3_; clear n0_ n1_ n2_ n3_; clear hb hbox hg; have hcz8_0 : w7.cell? ⟨gb275, 0, none⟩ = some (.slice A0_0 l0_0.length c0_0) := (blk_cell BK275.out 0).trans rfl; have hfz8_0 := blk_frozen BK275.out 0; have p276 : 0 ≤ (a1 : Int) := of_dec; have q276 : a1 < (l0_0.length : Int) := of_dec; obtain ⟨ad276, A276_3, c276_3, e276, hx276_0, hx276_1, hx276_2, hx276_3, hl276_3, hi276_3⟩ := at_T33 HR0_0.out a1 p276 q276; cases e276; replace hx276_0 := cell_b HB.out hx276_0; replace hx276_1 := cell_b HB.out hx276_1; replace hx276_2 := cell_b HB.out hx276_2; replace hx276_3 := cell_b HB.out hx276_3; have HR276_3 := Aside0.mk hi276_3; have HC276_3 := Aside0.mk hl276_3; clear hi276_3 hl276_3; replace p276 := eq_true p276; replace q276 := eq_true q276) | ((with_reducible refine gate_dst (N := 7) rfl ?_); refine box_event ?hg (N := 7) ?hd (cs := #[.int .i64 0, .int .i64 0, .int .i64 0, .slice none 0 0]) (t := 33) ?hr ?_; (case hd => rfl); (case hg => rfl); (case hr => first | (go_simp; done) | (go_simp; rfl)); intro gb277 hg w9 hbox hb; have n0_ := Aside0.mk (blk_below (g := gb275) (o := .cells #[.slice (some ad276) l0_0.length c0_0] 24 (0, 0)) (go_k BK275.out) hb); have n1_ := Aside0.mk (below_step (go_b1 HB.out GE275.out) hb); have n2_ := Aside0.mk (hbox); have n3_ := Aside0.mk ((by rw [hg]; exact (below_size (go_b1 HB.out GE275.out)) : w.heap.size ≤ gb277)); have n4_ := n3_; have n5_ := Aside0.mk ((by rw [hg]; exact Nat.ne_of_lt (blk_lt (g := gb275) (o := .cells #[.slice (some ad276) l0_0.length c0_0] 24 (0, 0)) (go_k BK275.out)) : gb275 ≠ gb277)); have n6_ := Aside0.mk ((by rw [hg]; exact Nat.ne_of_gt (blk_lt (g := gb275) (o := .cells #[.slice (some ad276) l0_0.length c0_0] 24 (0, 0)) (go_k BK275.out)) : gb277 ≠ gb275)); clear BK275; clear HB; have BK275 := n0_; have HB := n1_; have BK277 := n2_; have GW277 := n3_; have GE277 := n4_; have NB275_277 := n5_; have NB277_275 := n6_; clear n0_ n1_ n2_ n3_ n4_ n5_ n6_; clear hb hbox hg; have hnb10 := NB277_275.out; have hnc10 := NB275_277.out; have hcz11_0 : w9.cell? ⟨gb277, 0, none⟩ = some (.int .i64 0) := (blk_cell BK277.out 0).trans rfl; have hcz11_1 : w9.cell? ⟨gb277, 1, none⟩ = some (.int .i64 0) := (blk_cell BK277.out 1).trans rfl; have hcz11_2 : w9.cell? ⟨gb277, 2, none⟩ = some (.int .i64 0) := (blk_cell BK277.out 2).trans rfl; have hcz11_3 : w9.cell? ⟨gb277, 3, none⟩ = some (.slice none 0 0) := (blk_cell BK277.out 3).trans rfl; have hfz11_0 := blk_frozen BK277.out 0; have hfz11_1 := blk_frozen BK277.out 1; have hfz11_2 := blk_frozen BK277.out 2; have hfz11_3 := blk_frozen BK277.out 3))
   (try simp only [Act.put, List.setIfInBounds_toArray, List.set_cons_zero, List.set_cons_succ])
   go_cut [24] (fun v24 wc => ∃ (kq : Nat) (x24_5 : Bool), v24 = .bool x24_5 ∧ Aside0 (cavilref13_Owns.j0 kq a2 x24_5 l0_0 ((rd_T33 l0_0 a1).f0) ((rd_T33 l0_0 a1).f1) ((rd_T33 l0_0 a1).f2) ((rd_T33 l0_0 a1).f3) = some r) ∧ Aside0 (kq ≤ k) ∧ Aside0 (wc.heap[gb275]? = some (.cells #[(.slice (some ad276) l0_0.length c0_0)] 24 (0, 0))) ∧ Aside0 (wc.heap[gb277]? = some (.cells #[.int .i64 ((rd_T33 l0_0 a1).f0), .int .i64 ((rd_T33 l0_0 a1).f1), .int .i64 ((rd_T33 l0_0 a1).f2), (.slice A276_3 ((rd_T33 l0_0 a1).f3).length c276_3)] 33 (0, 0))) ∧ Aside0 (Below w.heap.size w wc))
   case first =>
    have H := HC6.out
    clear HC6
    by_cases c12 : a2 < ((rd_T33 l0_0 a1).f1)
    ·rw [if_pos c12] at H
     have c12b0 : decide (a2 < ((rd_T33 l0_0 a1).f1)) = true := decide_eq_true c12
     clear c12
     (first | rw [c12b0] | (simp only [i64_w, i32_w]; rw [c12b0]) | skip)
     have H' := Aside0.mk H
     clear H
     have hnb13 := NB277_275.out
     have hnc13 := NB275_277.out
     have hcz14_0 : w9.cell? ⟨gb277, 0, none⟩ = some (.int .i64 0) := (blk_cell BK277.out 0).trans rfl
     have hcz14_1 : w9.cell? ⟨gb277, 1, none⟩ = some (.int .i64 0) := (blk_cell BK277.out 1).trans rfl
     have hcz14_2 : w9.cell? ⟨gb277, 2, none⟩ = some (.int .i64 0) := (blk_cell BK277.out 2).trans rfl
     have hcz14_3 : w9.cell? ⟨gb277, 3, none⟩ = some (.slice none 0 0) := (blk_cell BK277.out 3).trans rfl
     have hfz14_0 := blk_frozen BK277.out 0
     have hfz14_1 := blk_frozen BK277.out 1
     have hfz14_2 := blk_frozen BK277.out 2
     have hfz14_3 := blk_frozen BK277.out 3
     go_wp2
     go_meet
     case rel => exact ⟨_, (true), (by first | rfl | (simp; done) | (simp [*]; done)), H', ⟨by first | omega | exact Nat.le_refl _⟩, ⟨by (with_reducible repeat (first | refine blk_drewN ?_ _ | refine blk_drew ?_ | refine blk_alloc ?_ _)); refine blk_far ?_ NB275_277.out _; refine blk_far ?_ NB275_277.out _; refine blk_far ?_ NB275_277.out _; refine blk_far ?_ NB275_277.out _; (with_reducible repeat (first | refine blk_drewN ?_ _ | refine blk_drew ?_ | refine blk_alloc ?_ _)); exact BK275.out⟩, ⟨by (with_reducible repeat (first | refine blk_drewN ?_ _ | refine blk_drew ?_ | refine blk_alloc ?_ _)); refine blk_put (cs := #[.int .i64 ((rd_T33 l0_0 a1).f0), .int .i64 ((rd_T33 l0_0 a1).f1), .int .i64 ((rd_T33 l0_0 a1).f2), .slice none 0 0]) ?_ 3 _ rfl; refine blk_put (cs := #[.int .i64 ((rd_T33 l0_0 a1).f0), .int .i64 ((rd_T33 l0_0 a1).f1), .int .i64 0, .slice none 0 0]) ?_ 2 _ rfl; refine blk_put (cs := #[.int .i64 ((rd_T33 l0_0 a1).f0), .int .i64 0, .int .i64 0, .slice none 0 0]) ?_ 1 _ rfl; refine blk_put (cs := #[.int .i64 0, .int .i64 0, .int .i64 0, .slice none 0 0]) ?_ 0 _ rfl; (with_reducible repeat (first | refine blk_drewN ?_ _ | refine blk_drew ?_ | refine blk_alloc ?_ _)); exact BK277.out⟩, ⟨by repeat (first | (with_reducible first | exact HB.out | apply below_alloc | apply pw_below_drewN | apply below_drew1 | refine below_set ?_ GE275.out | refine below_set ?_ GE277.out) | exact HB.out)⟩⟩
    ·rw [if_neg c12] at H
     have c12b0 : decide (a2 < ((rd_T33 l0_0 a1).f1)) = false := decide_eq_false c12
     clear c12
     (first | rw [c12b0] | (simp only [i64_w, i32_w]; rw [c12b0]) | skip)
     have H' := Aside0.mk H
     clear H
     have hnb15 := NB277_275.out
     have hnc15 := NB275_277.out
     have hcz16_0 : w9.cell? ⟨gb277, 0, none⟩ = some (.int .i64 0) := (blk_cell BK277.out 0).trans rfl
     have hcz16_1 : w9.cell? ⟨gb277, 1, none⟩ = some (.int .i64 0) := (blk_cell BK277.out 1).trans rfl
     have hcz16_2 : w9.cell? ⟨gb277, 2, none⟩ = some (.int .i64 0) := (blk_cell BK277.out 2).trans rfl
     have hcz16_3 : w9.cell? ⟨gb277, 3, none⟩ = some (.slice none 0 0) := (blk_cell BK277.out 3).trans rfl
     have hfz16_0 := blk_frozen BK277.out 0
     have hfz16_1 := blk_frozen BK277.out 1
     have hfz16_2 := blk_frozen BK277.out 2
     have hfz16_3 := blk_frozen BK277.out 3
     go_wp2
     go_meet
     case rel => exact ⟨_, (decide (a2 ≥ ((rd_T33 l0_0 a1).f2))), (by first | rfl | (simp; done) | (simp [*]; done)), H', ⟨by first | omega | exact Nat.le_refl _⟩, ⟨by (with_reducible repeat (first | refine blk_drewN ?_ _ | refine blk_drew ?_ | refine blk_alloc ?_ _)); refine blk_far ?_ NB275_277.out _; refine blk_far ?_ NB275_277.out _; refine blk_far ?_ NB275_277.out _; refine blk_far ?_ NB275_277.out _; (with_reducible repeat (first | refine blk_drewN ?_ _ | refine blk_drew ?_ | refine blk_alloc ?_ _)); exact BK275.out⟩, ⟨by (with_reducible repeat (first | refine blk_drewN ?_ _ | refine blk_drew ?_ | refine blk_alloc ?_ _)); refine blk_put (cs := #[.int .i64 ((rd_T33 l0_0 a1).f0), .int .i64 ((rd_T33 l0_0 a1).f1), .int .i64 ((rd_T33 l0_0 a1).f2), .slice none 0 0]) ?_ 3 _ rfl; refine blk_put (cs := #[.int .i64 ((rd_T33 l0_0 a1).f0), .int .i64 ((rd_T33 l0_0 a1).f1), .int .i64 0, .slice none 0 0]) ?_ 2 _ rfl; refine blk_put (cs := #[.int .i64 ((rd_T33 l0_0 a1).f0), .int .i64 0, .int .i64 0, .slice none 0 0]) ?_ 1 _ rfl; refine blk_put (cs := #[.int .i64 0, .int .i64 0, .int .i64 0, .slice none 0 0]) ?_ 0 _ rfl; (with_reducible repeat (first | refine blk_drewN ?_ _ | refine blk_drew ?_ | refine blk_alloc ?_ _)); exact BK277.out⟩, ⟨by repeat (first | (with_reducible first | exact HB.out | apply below_alloc | apply pw_below_drewN | apply below_drew1 | refine below_set ?_ GE275.out | refine below_set ?_ GE277.out) | exact HB.out)⟩⟩
   case rest =>
    clear HC6
    try clear c1
    try clear c2
    try clear p2
    try clear q2
    try clear hx2
    try clear c4
    try clear c4b0
    try clear c5
    try clear c5b0
    try clear c6
    try clear c10
    try clear c12
    try clear c12b0
    try clear c13
    try clear c15
    try clear hcz11_0
    try clear hcz11_1
    try clear hcz11_2
    try clear hcz11_3
    try clear hcz14_0
    try clear hcz14_1
    try clear hcz14_2
    try clear hcz14_3
    try clear hcz16_0
    try clear hcz16_1
    try clear hcz16_2
    try clear hcz16_3
    try clear hcz8_0
    try clear hfz11_0
    try clear hfz11_1
    try clear hfz11_2
    try clear hfz11_3
    try clear hfz14_0
    try clear hfz14_1
    try clear hfz14_2
    try clear hfz14_3
    try clear hfz16_0
    try clear hfz16_1
    try clear hfz16_2
    try clear hfz16_3
    try clear hfz8_0
    try clear hx276_0
    try clear hx276_1
    try clear hx276_2
    try clear hx276_3
    try clear p276
    try clear q276
    obtain ⟨kq, x24_5, rfl, HA, HJ5, BK275, BK277, HB⟩ := hcut
    cases kq with
    | zero => exact absurd HA.out (by simp [cavilref13_Owns.j0])
    | succ kj5 =>
     have H := HA.out
     clear HA
     simp only [cavilref13_Owns.j0] at H
     by_cases c17 : x24_5 = true
     ·subst c17
      have H1 : (some false) = some r := by rw [if_pos rfl] at H; exact H
      clear H
      have H := H1
      clear H1
      obtain rfl := Option.some.inj H
      go_wp2
      go_ret
      exact ⟨by first | rfl | (simp [*, errW_none, errW_some, erT_no, erV_no, erT_at, erV_at] <;> rfl), by repeat (first | (with_reducible first | exact HB.out | apply below_alloc | apply pw_below_drewN | apply below_drew1 | refine below_set ?_ GE275.out | refine below_set ?_ GE277.out) | exact HB.out)⟩
     ·replace c17 := Bool.eq_false_iff.mpr c17
      subst c17
      have H1 : (cavilref13_Owns.l0 kj5 a2 0 l0_0 ((rd_T33 l0_0 a1).f0) ((rd_T33 l0_0 a1).f1) ((rd_T33 l0_0 a1).f2) ((rd_T33 l0_0 a1).f3)) = some r := by rw [if_neg (show ¬ (false = true) by decide)] at H; exact H
      clear H
      have H := H1
      clear H1
      have H' := Aside0.mk H
      clear H
      go_wp2
      go_loopg [8] kj5 (fun kq v8 w' => ∃ (x8_2 : Int), v8 = .int .i64 x8_2 ∧ Aside0 (cavilref13_Owns.l0 kq a2 x8_2 l0_0 ((rd_T33 l0_0 a1).f0) ((rd_T33 l0_0 a1).f1) ((rd_T33 l0_0 a1).f2) ((rd_T33 l0_0 a1).f3) = some r) ∧ Aside0 (kq ≤ kj5) ∧ Aside0 (w'.heap[gb275]? = some (.cells #[(.slice (some ad276) l0_0.length c0_0)] 24 (0, 0))) ∧ Aside0 (w'.heap[gb277]? = some (.cells #[.int .i64 ((rd_T33 l0_0 a1).f0), .int .i64 ((rd_T33 l0_0 a1).f1), .int .i64 ((rd_T33 l0_0 a1).f2), (.slice A276_3 ((rd_T33 l0_0 a1).f3).length c276_3)] 33 (0, 0))) ∧ Aside0 (Below w.heap.size w w'))
      case atStart => exact ⟨(0), (by first | rfl | (simp; done) | (simp [*]; done)), H', ⟨Nat.le_refl _⟩, ⟨by (with_reducible repeat (first | refine blk_drewN ?_ _ | refine blk_drew ?_ | refine blk_alloc ?_ _)); exact BK275.out⟩, ⟨by (with_reducible repeat (first | refine blk_drewN ?_ _ | refine blk_drew ?_ | refine blk_alloc ?_ _)); exact BK277.out⟩, ⟨by repeat (first | (with_reducible first | exact HB.out | apply below_alloc | apply pw_below_drewN | apply below_drew1 | refine below_set ?_ GE275.out | refine below_set ?_ GE277.out) | exact HB.out)⟩⟩
      case round =>
       clear H'
       try clear c1
       try clear c2
       try clear p2
       try clear q2
       try clear hx2
       try clear c4
       try clear c4b0
       try clear c5
       try clear c5b0
       try clear c6
       try clear c10
       try clear c12
       try clear c12b0
       try clear c13
       try clear c15
       try clear c17
       try clear hcz11_0
       try clear hcz11_1
       try clear hcz11_2
       try clear hcz11_3
       try clear hcz14_0
       try clear hcz14_1
       try clear hcz14_2
       try clear hcz14_3
       try clear hcz16_0
       try clear hcz16_1
       try clear hcz16_2
       try clear hcz16_3
       try clear hcz8_0
       try clear hfz11_0
       try clear hfz11_1
       try clear hfz11_2
       try clear hfz11_3
       try clear hfz14_0
       try clear hfz14_1
       try clear hfz14_2
       try clear hfz14_3
       try clear hfz16_0
       try clear hfz16_1
       try clear hfz16_2
       try clear hfz16_3
       try clear hfz8_0
       try clear hx276_0
       try clear hx276_1
       try clear hx276_2
       try clear hx276_3
       try clear p2
       try clear p276
       try clear q2
       try clear q276
       obtain ⟨x8_2, rfl, HA, HK2, BK275, BK277, HB⟩ := hrel
       cases gk with
       | zero => exact absurd HA.out (by simp [cavilref13_Owns.l0])
       | succ k2 =>
        have H := HA.out
        clear HA
        simp only [cavilref13_Owns.l0] at H
        by_cases c18 : x8_2 < (((rd_T33 l0_0 a1).f3).length : Int)
        ·rw [if_pos c18] at H
         have c18b0 : decide (x8_2 < (((rd_T33 l0_0 a1).f3).length : Int)) = true := decide_eq_true c18
         clear c18
         by_cases c19 : 0 ≤ x8_2
         ·rw [if_pos c19] at H
          have c19b0 : decide (0 ≤ x8_2) = true := decide_eq_true c19
          clear c19
          by_cases c20 : 0 ≤ (rd ((rd_T33 l0_0 a1).f3) x8_2)
          ·rw [if_pos c20] at H
           have c20b0 : decide (0 ≤ (rd ((rd_T33 l0_0 a1).f3) x8_2)) = true := decide_eq_true c20
           clear c20
           by_cases c21 : (rd ((rd_T33 l0_0 a1).f3) x8_2) < (l0_0.length : Int)
           ·rw [if_pos c21] at H
            have c21b0 : decide ((rd ((rd_T33 l0_0 a1).f3) x8_2) < (l0_0.length : Int)) = true := decide_eq_true c21
            clear c21
            by_cases c22 : a2 ≥ ((rd_T33 l0_0 (rd ((rd_T33 l0_0 a1).f3) x8_2)).f1)
            ·rw [if_pos c22] at H
             have c22b0 : decide (((rd_T33 l0_0 (rd ((rd_T33 l0_0 a1).f3) x8_2)).f1) ≤ a2) = true := decide_eq_true c22
             clear c22
             by_cases c23 : a2 < ((rd_T33 l0_0 (rd ((rd_T33 l0_0 a1).f3) x8_2)).f2)
             ·rw [if_pos c23] at H
              have c23b0 : decide (a2 < ((rd_T33 l0_0 (rd ((rd_T33 l0_0 a1).f3) x8_2)).f2)) = true := decide_eq_true c23
              clear c23
              obtain rfl := Option.some.inj H
              have hnb24 := NB277_275.out
              have hnc24 := NB275_277.out
              have hcz25_0 : wr.cell? ⟨gb277, 0, none⟩ = some (.int .i64 ((rd_T33 l0_0 a1).f0)) := (blk_cell BK277.out 0).trans rfl
              have hcz25_1 : wr.cell? ⟨gb277, 1, none⟩ = some (.int .i64 ((rd_T33 l0_0 a1).f1)) := (blk_cell BK277.out 1).trans rfl
              have hcz25_2 : wr.cell? ⟨gb277, 2, none⟩ = some (.int .i64 ((rd_T33 l0_0 a1).f2)) := (blk_cell BK277.out 2).trans rfl
              have hcz25_3 : wr.cell? ⟨gb277, 3, none⟩ = some (.slice A276_3 ((rd_T33 l0_0 a1).f3).length c276_3) := (blk_cell BK277.out 3).trans rfl
              have hfz25_0 := blk_frozen BK277.out 0
              have hfz25_1 := blk_frozen BK277.out 1
              have hfz25_2 := blk_frozen BK277.out 2
              have hfz25_3 := blk_frozen BK277.out 3
              try go_wp2
              have n0_ := Aside0.mk (blk_drew BK275.out)
              have n1_ := Aside0.mk (blk_drew BK277.out)
              have n2_ := Aside0.mk (below_drew1 HB.out)
              clear BK275
              clear BK277
              clear HB
              have BK275 := n0_
              have BK277 := n1_
              have HB := n2_
              clear n0_ n1_ n2_
              have p278 : 0 ≤ (x8_2 : Int) := of_dec
              have q278 : x8_2 < (((rd_T33 l0_0 a1).f3).length : Int) := of_dec
              obtain ⟨ad278, e278, hx278_0⟩ := Kd.at_int HR276_3.out x8_2 p278 q278
              have hw278_0 := hx278_0
              cases e278
              replace hx278_0 := cell_b HB.out hx278_0
              replace p278 := eq_true p278
              replace q278 := eq_true q278
              have p279 : 0 ≤ ((rd ((rd_T33 l0_0 a1).f3) x8_2) : Int) := of_dec
              have q279 : (rd ((rd_T33 l0_0 a1).f3) x8_2) < (l0_0.length : Int) := of_dec
              obtain ⟨ad279, A279_3, c279_3, e279, hx279_0, hx279_1, hx279_2, hx279_3, hl279_3, hi279_3⟩ := at_T33 HR0_0.out (rd ((rd_T33 l0_0 a1).f3) x8_2) p279 q279
              have hw279_3 := hx279_3
              have hw279_2 := hx279_2
              have hw279_1 := hx279_1
              have hw279_0 := hx279_0
              obtain rfl : ad276 = ad279 := (by injection e279)
              replace hx279_0 := cell_b HB.out hx279_0
              replace hx279_1 := cell_b HB.out hx279_1
              replace hx279_2 := cell_b HB.out hx279_2
              replace hx279_3 := cell_b HB.out hx279_3
              have HR279_3 := Aside0.mk hi279_3
              have HC279_3 := Aside0.mk hl279_3
              clear hi279_3 hl279_3
              replace p279 := eq_true p279
              replace q279 := eq_true q279
              refine start_ (n := 11) (S := fun w' => w'.cell? ⟨gb275, 0, none⟩ = some (.slice (some ad276) l0_0.length c0_0) ∧ w'.cell? ⟨gb277, 0, none⟩ = some (.int .i64 ((rd_T33 l0_0 a1).f0)) ∧ w'.cell? ⟨gb277, 1, none⟩ = some (.int .i64 ((rd_T33 l0_0 a1).f1)) ∧ w'.cell? ⟨gb277, 2, none⟩ = some (.int .i64 ((rd_T33 l0_0 a1).f2)) ∧ w'.cell? ⟨gb277, 3, none⟩ = some (.slice (some ad278) ((rd_T33 l0_0 a1).f3).length c276_3) ∧ w'.cell? (ad278.add (x8_2).toNat) = some (.int .i64 (rd ((rd_T33 l0_0 a1).f3) x8_2)) ∧ w'.cell? (ad276.add (((rd ((rd_T33 l0_0 a1).f3) x8_2)).toNat * 4)) = some (.int .i64 ((rd_T33 l0_0 (rd ((rd_T33 l0_0 a1).f3) x8_2)).f0)) ∧ w'.cell? ⟨(ad276.add (((rd ((rd_T33 l0_0 a1).f3) x8_2)).toNat * 4)).block, (ad276.add (((rd ((rd_T33 l0_0 a1).f3) x8_2)).toNat * 4)).off + 1, none⟩ = some (.int .i64 ((rd_T33 l0_0 (rd ((rd_T33 l0_0 a1).f3) x8_2)).f1)) ∧ w'.cell? ⟨(ad276.add (((rd ((rd_T33 l0_0 a1).f3) x8_2)).toNat * 4)).block, (ad276.add (((rd ((rd_T33 l0_0 a1).f3) x8_2)).toNat * 4)).off + 2, none⟩ = some (.int .i64 ((rd_T33 l0_0 (rd ((rd_T33 l0_0 a1).f3) x8_2)).f2)) ∧ w'.cell? ⟨(ad276.add (((rd ((rd_T33 l0_0 a1).f3) x8_2)).toNat * 4)).block, (ad276.add (((rd ((rd_T33 l0_0 a1).f3) x8_2)).toNat * 4)).off + 3, none⟩ = some (.slice A279_3 ((rd_T33 l0_0 (rd ((rd_T33 l0_0 a1).f3) x8_2)).f3).length c279_3)) (ds := []) #[false, false, false, false, false, false, false, false, false, false, false] (by kernel_rfl) rfl rfl ⟨(blk_cell BK275.out 0).trans rfl, (blk_cell BK277.out 0).trans rfl, (blk_cell BK277.out 1).trans rfl, (blk_cell BK277.out 2).trans rfl, (blk_cell BK277.out 3).trans rfl, (cell_b HB.out hw278_0), (cell_b HB.out hw279_0), (cell_b HB.out hw279_1), (cell_b HB.out hw279_2), (cell_b HB.out hw279_3)⟩ (fun hHeld => ?_); refine with_tabW cavilref13_Owns.tab7 cavilref13_Owns.bits7 (fun HT_ HW_ => ?_)
              generalize wr.drew = w26 at BK275 BK277 HB HR279_3 hx278_0 hx279_0 hx279_1 hx279_2 hx279_3 hHeld ⊢
              refine pure_ (i := 0) (N := some 32) (v := ?_) (a' := ?_) #[true, false, false, false, false, false, false, false, false, false, false] rfl rfl (any_of HT_.out (by kernel_rfl)) (fun _ _ _ h => h) (Or.inl ⟨by rfl, ?_⟩) ?_ ?_; rotate_left; { intro w'; go_simp; with_reducible rfl }; rotate_left; { simp only [Act.put, List.setIfInBounds_toArray, List.set_cons_zero, List.set_cons_succ, i64_w, i32_w]; rfl }
              refine pure_ (i := 2) (N := some 34) (v := ?_) (a' := ?_) #[true, false, true, false, false, false, false, false, false, false, false] rfl rfl (any_of HT_.out (by kernel_rfl)) (fun _ _ _ h => h) (Or.inl ⟨by rfl, ?_⟩) ?_ ?_; rotate_left; { intro w'; go_simp; with_reducible rfl }; rotate_left; { simp only [Act.put, List.setIfInBounds_toArray, List.set_cons_zero, List.set_cons_succ, i64_w, i32_w]; rfl }
              refine pure_ (i := 4) (N := some 36) (v := ?_) (a' := ?_) #[true, false, true, false, true, false, false, false, false, false, false] rfl rfl (any_of HT_.out (by kernel_rfl)) (fun _ _ _ h => h) (Or.inl ⟨by rfl, ?_⟩) ?_ ?_; rotate_left; { intro w'; go_simp; with_reducible rfl }; rotate_left; { simp only [Act.put, List.setIfInBounds_toArray, List.set_cons_zero, List.set_cons_succ, i64_w, i32_w]; rfl }
              refine take_ (i := 1) (N := some 33) (v := ?_) (a' := ?_) #[true, true, true, false, true, false, false, false, false, false, false] rfl rfl (take_ofW HT_.out HW_.out (by kernel_rfl)) (fun _ _ _ h => h) (Or.inl ⟨by rfl, ?_⟩) hHeld ?_ ?_; rotate_left; { rintro w' ⟨s0, s1, s2, s3, s4, s5, s6, s7, s8, s9⟩; go_simp; with_reducible rfl }; rotate_left; { simp only [Act.put, List.setIfInBounds_toArray, List.set_cons_zero, List.set_cons_succ, i64_w, i32_w]; rfl }
              refine take_ (i := 3) (N := some 35) (v := ?_) (a' := ?_) #[true, true, true, true, true, false, false, false, false, false, false] rfl rfl (take_ofW HT_.out HW_.out (by kernel_rfl)) (fun _ _ _ h => h) (Or.inl ⟨by rfl, ?_⟩) hHeld ?_ ?_; rotate_left; { rintro w' ⟨s0, s1, s2, s3, s4, s5, s6, s7, s8, s9⟩; go_simp; with_reducible rfl }; rotate_left; { simp only [Act.put, List.setIfInBounds_toArray, List.set_cons_zero, List.set_cons_succ, i64_w, i32_w]; rfl }
              refine pure_ (i := 5) (N := some 37) (v := ?_) (a' := ?_) #[true, true, true, true, true, true, false, false, false, false, false] rfl rfl (any_of HT_.out (by kernel_rfl)) (fun _ _ _ h => h) (Or.inl ⟨by rfl, ?_⟩) ?_ ?_; rotate_left; { intro w'; go_simp; with_reducible rfl }; rotate_left; { simp only [Act.put, List.setIfInBounds_toArray, List.set_cons_zero, List.set_cons_succ, i64_w, i32_w]; rfl }
              refine take_ (i := 6) (N := some 38) (v := ?_) (a' := ?_) #[true, true, true, true, true, true, true, false, false, false, false] rfl rfl (take_ofW HT_.out HW_.out (by kernel_rfl)) (fun _ _ _ h => h) (Or.inl ⟨by rfl, ?_⟩) hHeld ?_ ?_; rotate_left; { rintro w' ⟨s0, s1, s2, s3, s4, s5, s6, s7, s8, s9⟩; go_simp; with_reducible rfl }; rotate_left; { simp only [Act.put, List.setIfInBounds_toArray, List.set_cons_zero, List.set_cons_succ, i64_w, i32_w]; rfl }
              refine pure_ (i := 7) (N := some 39) (v := ?_) (a' := ?_) #[true, true, true, true, true, true, true, true, false, false, false] rfl rfl (any_of HT_.out (by kernel_rfl)) (fun _ _ _ h => h) (Or.inl ⟨by rfl, ?_⟩) ?_ ?_; rotate_left; { intro w'; go_simp; with_reducible rfl }; rotate_left; { simp only [Act.put, List.setIfInBounds_toArray, List.set_cons_zero, List.set_cons_succ, i64_w, i32_w]; rfl }
              refine take_ (i := 8) (N := some 40) (v := ?_) (a' := ?_) #[true, true, true, true, true, true, true, true, true, false, false] rfl rfl (take_ofW HT_.out HW_.out (by kernel_rfl)) (fun _ _ _ h => h) (Or.inl ⟨by rfl, ?_⟩) hHeld ?_ ?_; rotate_left; { rintro w' ⟨s0, s1, s2, s3, s4, s5, s6, s7, s8, s9⟩; go_simp; with_reducible rfl }; rotate_left; { simp only [Act.put, List.setIfInBounds_toArray, List.set_cons_zero, List.set_cons_succ, i64_w, i32_w]; rfl }
              refine one_ (i := 9) (N := some 9) #[true, true, true, true, true, true, true, true, true, true, false] rfl rfl (one_of HT_.out (by kernel_rfl)) (by decide) (fun K hK => ?_)
              refine box_step ?hg (N := 9) ?hd (cs := #[.int .i64 0, .int .i64 0, .int .i64 0, .slice none 0 0]) (t := 33) ?hr ?_; (case hd => rfl); (case hg => rfl); (case hr => first | (go_simp; done) | (go_simp; rfl))
              intro gb280 hg w27 hbox hb
              have n0_ := Aside0.mk (blk_below (g := gb275) (o := .cells #[.slice (some ad276) l0_0.length c0_0] 24 (0, 0)) (go_k BK275.out) hb)
              have n1_ := Aside0.mk (blk_below (g := gb277) (o := .cells #[.int .i64 ((rd_T33 l0_0 a1).f0), .int .i64 ((rd_T33 l0_0 a1).f1), .int .i64 ((rd_T33 l0_0 a1).f2), .slice (some ad278) ((rd_T33 l0_0 a1).f3).length c276_3] 33 (0, 0)) (go_k BK277.out) hb)
              have n2_ := Aside0.mk (below_step (go_b2 HB.out GE275.out GE277.out) hb)
              have n3_ := Aside0.mk (hbox)
              have n4_ := Aside0.mk ((by rw [hg]; exact (below_size (go_b2 HB.out GE275.out GE277.out)) : w.heap.size ≤ gb280))
              have n5_ := Aside0.mk ((by rw [hg]; exact (below_size (go_b2 HB.out GE275.out GE277.out)) : w.heap.size ≤ gb280))
              have n6_ := Aside0.mk ((by rw [hg]; exact Nat.ne_of_lt (blk_lt (g := gb275) (o := .cells #[.slice (some ad276) l0_0.length c0_0] 24 (0, 0)) (go_k BK275.out)) : gb275 ≠ gb280))
              have n7_ := Aside0.mk ((by rw [hg]; exact Nat.ne_of_gt (blk_lt (g := gb275) (o := .cells #[.slice (some ad276) l0_0.length c0_0] 24 (0, 0)) (go_k BK275.out)) : gb280 ≠ gb275))
              have n8_ := Aside0.mk ((by rw [hg]; exact Nat.ne_of_lt (blk_lt (g := gb277) (o := .cells #[.int .i64 ((rd_T33 l0_0 a1).f0), .int .i64 ((rd_T33 l0_0 a1).f1), .int .i64 ((rd_T33 l0_0 a1).f2), .slice (some ad278) ((rd_T33 l0_0 a1).f3).length c276_3] 33 (0, 0)) (go_k BK277.out)) : gb277 ≠ gb280))
              have n9_ := Aside0.mk ((by rw [hg]; exact Nat.ne_of_gt (blk_lt (g := gb277) (o := .cells #[.int .i64 ((rd_T33 l0_0 a1).f0), .int .i64 ((rd_T33 l0_0 a1).f1), .int .i64 ((rd_T33 l0_0 a1).f2), .slice (some ad278) ((rd_T33 l0_0 a1).f3).length c276_3] 33 (0, 0)) (go_k BK277.out)) : gb280 ≠ gb277))
              clear BK275
              clear BK277
              clear HB
              have BK275 := n0_
              have BK277 := n1_
              have HB := n2_
              have BK280 := n3_
              have GW280 := n4_
              have GE280 := n5_
              have NB275_280 := n6_
              have NB280_275 := n7_
              have NB277_280 := n8_
              have NB280_277 := n9_
              clear n0_ n1_ n2_ n3_ n4_ n5_ n6_ n7_ n8_ n9_
              clear hb hbox hg
              refine hK.out _ _ ⟨(blk_cell BK275.out 0).trans rfl, (blk_cell BK277.out 0).trans rfl, (blk_cell BK277.out 1).trans rfl, (blk_cell BK277.out 2).trans rfl, (blk_cell BK277.out 3).trans rfl, (cell_b HB.out hw278_0), (cell_b HB.out hw279_0), (cell_b HB.out hw279_1), (cell_b HB.out hw279_2), (cell_b HB.out hw279_3)⟩ (fun hHeld => ?_)
              clear hK K
              refine norm_ (a' := ?_) ?_ ?_; rotate_left; { show Act.put _ (some 9) _ = _; simp only [Act.put, List.setIfInBounds_toArray, List.set_cons_zero, List.set_cons_succ, i64_w, i32_w]; rfl }
              refine one_ (i := 10) (N := none) #[true, true, true, true, true, true, true, true, true, true, true] rfl rfl (one_of HT_.out (by kernel_rfl)) (by decide) (fun K hK => ?_)
              have hs28 : w27.cell? ⟨gb280, 0, none⟩ = some (.int .i64 0) := (blk_cell BK280.out 0).trans rfl
              have hfs28 := blk_frozen BK280.out 0
              have hns28_0 := NB275_280.out
              have hns28_1 := NB277_280.out
              have hms28_0 := NB280_275.out
              have hms28_1 := NB280_277.out
              have hs29 : w27.cell? ⟨gb280, 1, none⟩ = some (.int .i64 0) := (blk_cell BK280.out 1).trans rfl
              have hfs29 := blk_frozen BK280.out 1
              have hns29_0 := NB275_280.out
              have hns29_1 := NB277_280.out
              have hms29_0 := NB280_275.out
              have hms29_1 := NB280_277.out
              have hs30 : w27.cell? ⟨gb280, 2, none⟩ = some (.int .i64 0) := (blk_cell BK280.out 2).trans rfl
              have hfs30 := blk_frozen BK280.out 2
              have hns30_0 := NB275_280.out
              have hns30_1 := NB277_280.out
              have hms30_0 := NB280_275.out
              have hms30_1 := NB280_277.out
              have hs31 : w27.cell? ⟨gb280, 3, none⟩ = some (.slice none 0 0) := (blk_cell BK280.out 3).trans rfl
              have hfs31 := blk_frozen BK280.out 3
              have hns31_0 := NB275_280.out
              have hns31_1 := NB277_280.out
              have hms31_0 := NB280_275.out
              have hms31_1 := NB280_277.out
              refine skip_ (w1 := ?_) (by rfl) rfl ?_ ?_; rotate_left; { go_simp; rfl }
              refine hK.out _ _ ⟨((cell_far (p := ⟨gb280, _, none⟩) NB275_280.out _).trans (((cell_far (p := ⟨gb280, _, none⟩) NB275_280.out _).trans (((cell_far (p := ⟨gb280, _, none⟩) NB275_280.out _).trans (((cell_far (p := ⟨gb280, _, none⟩) NB275_280.out _).trans (hHeld.1)))))))), ((cell_far (p := ⟨gb280, _, none⟩) NB277_280.out _).trans (((cell_far (p := ⟨gb280, _, none⟩) NB277_280.out _).trans (((cell_far (p := ⟨gb280, _, none⟩) NB277_280.out _).trans (((cell_far (p := ⟨gb280, _, none⟩) NB277_280.out _).trans (hHeld.2.1)))))))), ((cell_far (p := ⟨gb280, _, none⟩) NB277_280.out _).trans (((cell_far (p := ⟨gb280, _, none⟩) NB277_280.out _).trans (((cell_far (p := ⟨gb280, _, none⟩) NB277_280.out _).trans (((cell_far (p := ⟨gb280, _, none⟩) NB277_280.out _).trans (hHeld.2.2.1)))))))), ((cell_far (p := ⟨gb280, _, none⟩) NB277_280.out _).trans (((cell_far (p := ⟨gb280, _, none⟩) NB277_280.out _).trans (((cell_far (p := ⟨gb280, _, none⟩) NB277_280.out _).trans (((cell_far (p := ⟨gb280, _, none⟩) NB277_280.out _).trans (hHeld.2.2.2.1)))))))), ((cell_far (p := ⟨gb280, _, none⟩) NB277_280.out _).trans (((cell_far (p := ⟨gb280, _, none⟩) NB277_280.out _).trans (((cell_far (p := ⟨gb280, _, none⟩) NB277_280.out _).trans (((cell_far (p := ⟨gb280, _, none⟩) NB277_280.out _).trans (hHeld.2.2.2.2.1)))))))), ((far_c hw278_0 GW280.out).trans (((far_c hw278_0 GW280.out).trans (((far_c hw278_0 GW280.out).trans (((far_c hw278_0 GW280.out).trans (hHeld.2.2.2.2.2.1)))))))), ((far_c hw279_0 GW280.out).trans (((far_c hw279_0 GW280.out).trans (((far_c hw279_0 GW280.out).trans (((far_c hw279_0 GW280.out).trans (hHeld.2.2.2.2.2.2.1)))))))), ((far_c hw279_1 GW280.out).trans (((far_c hw279_1 GW280.out).trans (((far_c hw279_1 GW280.out).trans (((far_c hw279_1 GW280.out).trans (hHeld.2.2.2.2.2.2.2.1)))))))), ((far_c hw279_2 GW280.out).trans (((far_c hw279_2 GW280.out).trans (((far_c hw279_2 GW280.out).trans (((far_c hw279_2 GW280.out).trans (hHeld.2.2.2.2.2.2.2.2.1)))))))), ((far_c hw279_3 GW280.out).trans (((far_c hw279_3 GW280.out).trans (((far_c hw279_3 GW280.out).trans (((far_c hw279_3 GW280.out).trans (hHeld.2.2.2.2.2.2.2.2.2))))))))⟩ (fun hHeld => ?_)
              clear hK K
              refine done_ (done_of HT_.out (by kernel_rfl)) ?_
              have hnb32 := NB280_275.out
              have hnc32 := NB275_280.out
              have hnb33 := NB280_277.out
              have hnc33 := NB277_280.out
              have hcz34_0 : w27.cell? ⟨gb280, 0, none⟩ = some (.int .i64 0) := (blk_cell BK280.out 0).trans rfl
              have hcz34_1 : w27.cell? ⟨gb280, 1, none⟩ = some (.int .i64 0) := (blk_cell BK280.out 1).trans rfl
              have hcz34_2 : w27.cell? ⟨gb280, 2, none⟩ = some (.int .i64 0) := (blk_cell BK280.out 2).trans rfl
              have hcz34_3 : w27.cell? ⟨gb280, 3, none⟩ = some (.slice none 0 0) := (blk_cell BK280.out 3).trans rfl
              have hfz34_0 := blk_frozen BK280.out 0
              have hfz34_1 := blk_frozen BK280.out 1
              have hfz34_2 := blk_frozen BK280.out 2
              have hfz34_3 := blk_frozen BK280.out 3
              try go_wp2
              go_ret
              exact ⟨by first | rfl | (simp [*, errW_none, errW_some, erT_no, erV_no, erT_at, erV_at] <;> rfl), by repeat (first | (with_reducible first | exact HB.out | apply below_alloc | apply pw_below_drewN | apply below_drew1 | refine below_set ?_ GE275.out | refine below_set ?_ GE277.out | refine below_set ?_ GE280.out) | exact HB.out)⟩
             ·rw [if_neg c23] at H
              have c23b0 : decide (a2 < ((rd_T33 l0_0 (rd ((rd_T33 l0_0 a1).f3) x8_2)).f2)) = false := decide_eq_false c23
              clear c23
              have H' := Aside0.mk H
              clear H
              have hnb35 := NB277_275.out
              have hnc35 := NB275_277.out
              have hcz36_0 : wr.cell? ⟨gb277, 0, none⟩ = some (.int .i64 ((rd_T33 l0_0 a1).f0)) := (blk_cell BK277.out 0).trans rfl
              have hcz36_1 : wr.cell? ⟨gb277, 1, none⟩ = some (.int .i64 ((rd_T33 l0_0 a1).f1)) := (blk_cell BK277.out 1).trans rfl
              have hcz36_2 : wr.cell? ⟨gb277, 2, none⟩ = some (.int .i64 ((rd_T33 l0_0 a1).f2)) := (blk_cell BK277.out 2).trans rfl
              have hcz36_3 : wr.cell? ⟨gb277, 3, none⟩ = some (.slice A276_3 ((rd_T33 l0_0 a1).f3).length c276_3) := (blk_cell BK277.out 3).trans rfl
              have hfz36_0 := blk_frozen BK277.out 0
              have hfz36_1 := blk_frozen BK277.out 1
              have hfz36_2 := blk_frozen BK277.out 2
              have hfz36_3 := blk_frozen BK277.out 3
              try go_wp2
              have n0_ := Aside0.mk (blk_drew BK275.out)
              have n1_ := Aside0.mk (blk_drew BK277.out)
              have n2_ := Aside0.mk (below_drew1 HB.out)
              clear BK275
              clear BK277
              clear HB
              have BK275 := n0_
              have BK277 := n1_
              have HB := n2_
              clear n0_ n1_ n2_
              have p278 : 0 ≤ (x8_2 : Int) := of_dec
              have q278 : x8_2 < (((rd_T33 l0_0 a1).f3).length : Int) := of_dec
              obtain ⟨ad278, e278, hx278_0⟩ := Kd.at_int HR276_3.out x8_2 p278 q278
              have hw278_0 := hx278_0
              cases e278
              replace hx278_0 := cell_b HB.out hx278_0
              replace p278 := eq_true p278
              replace q278 := eq_true q278
              have p279 : 0 ≤ ((rd ((rd_T33 l0_0 a1).f3) x8_2) : Int) := of_dec
              have q279 : (rd ((rd_T33 l0_0 a1).f3) x8_2) < (l0_0.length : Int) := of_dec
              obtain ⟨ad279, A279_3, c279_3, e279, hx279_0, hx279_1, hx279_2, hx279_3, hl279_3, hi279_3⟩ := at_T33 HR0_0.out (rd ((rd_T33 l0_0 a1).f3) x8_2) p279 q279
              have hw279_3 := hx279_3
              have hw279_2 := hx279_2
              have hw279_1 := hx279_1
              have hw279_0 := hx279_0
              obtain rfl : ad276 = ad279 := (by injection e279)
              replace hx279_0 := cell_b HB.out hx279_0
              replace hx279_1 := cell_b HB.out hx279_1
              replace hx279_2 := cell_b HB.out hx279_2
              replace hx279_3 := cell_b HB.out hx279_3
              have HR279_3 := Aside0.mk hi279_3
              have HC279_3 := Aside0.mk hl279_3
              clear hi279_3 hl279_3
              replace p279 := eq_true p279
              replace q279 := eq_true q279
              refine start_ (n := 11) (S := fun w' => w'.cell? ⟨gb275, 0, none⟩ = some (.slice (some ad276) l0_0.length c0_0) ∧ w'.cell? ⟨gb277, 0, none⟩ = some (.int .i64 ((rd_T33 l0_0 a1).f0)) ∧ w'.cell? ⟨gb277, 1, none⟩ = some (.int .i64 ((rd_T33 l0_0 a1).f1)) ∧ w'.cell? ⟨gb277, 2, none⟩ = some (.int .i64 ((rd_T33 l0_0 a1).f2)) ∧ w'.cell? ⟨gb277, 3, none⟩ = some (.slice (some ad278) ((rd_T33 l0_0 a1).f3).length c276_3) ∧ w'.cell? (ad278.add (x8_2).toNat) = some (.int .i64 (rd ((rd_T33 l0_0 a1).f3) x8_2)) ∧ w'.cell? (ad276.add (((rd ((rd_T33 l0_0 a1).f3) x8_2)).toNat * 4)) = some (.int .i64 ((rd_T33 l0_0 (rd ((rd_T33 l0_0 a1).f3) x8_2)).f0)) ∧ w'.cell? ⟨(ad276.add (((rd ((rd_T33 l0_0 a1).f3) x8_2)).toNat * 4)).block, (ad276.add (((rd ((rd_T33 l0_0 a1).f3) x8_2)).toNat * 4)).off + 1, none⟩ = some (.int .i64 ((rd_T33 l0_0 (rd ((rd_T33 l0_0 a1).f3) x8_2)).f1)) ∧ w'.cell? ⟨(ad276.add (((rd ((rd_T33 l0_0 a1).f3) x8_2)).toNat * 4)).block, (ad276.add (((rd ((rd_T33 l0_0 a1).f3) x8_2)).toNat * 4)).off + 2, none⟩ = some (.int .i64 ((rd_T33 l0_0 (rd ((rd_T33 l0_0 a1).f3) x8_2)).f2)) ∧ w'.cell? ⟨(ad276.add (((rd ((rd_T33 l0_0 a1).f3) x8_2)).toNat * 4)).block, (ad276.add (((rd ((rd_T33 l0_0 a1).f3) x8_2)).toNat * 4)).off + 3, none⟩ = some (.slice A279_3 ((rd_T33 l0_0 (rd ((rd_T33 l0_0 a1).f3) x8_2)).f3).length c279_3)) (ds := []) #[false, false, false, false, false, false, false, false, false, false, false] (by kernel_rfl) rfl rfl ⟨(blk_cell BK275.out 0).trans rfl, (blk_cell BK277.out 0).trans rfl, (blk_cell BK277.out 1).trans rfl, (blk_cell BK277.out 2).trans rfl, (blk_cell BK277.out 3).trans rfl, (cell_b HB.out hw278_0), (cell_b HB.out hw279_0), (cell_b HB.out hw279_1), (cell_b HB.out hw279_2), (cell_b HB.out hw279_3)⟩ (fun hHeld => ?_); refine with_tabW cavilref13_Owns.tab7 cavilref13_Owns.bits7 (fun HT_ HW_ => ?_)
              generalize wr.drew = w37 at BK275 BK277 HB HR279_3 hx278_0 hx279_0 hx279_1 hx279_2 hx279_3 hHeld ⊢
              refine pure_ (i := 0) (N := some 32) (v := ?_) (a' := ?_) #[true, false, false, false, false, false, false, false, false, false, false] rfl rfl (any_of HT_.out (by kernel_rfl)) (fun _ _ _ h => h) (Or.inl ⟨by rfl, ?_⟩) ?_ ?_; rotate_left; { intro w'; go_simp; with_reducible rfl }; rotate_left; { simp only [Act.put, List.setIfInBounds_toArray, List.set_cons_zero, List.set_cons_succ, i64_w, i32_w]; rfl }
              refine pure_ (i := 2) (N := some 34) (v := ?_) (a' := ?_) #[true, false, true, false, false, false, false, false, false, false, false] rfl rfl (any_of HT_.out (by kernel_rfl)) (fun _ _ _ h => h) (Or.inl ⟨by rfl, ?_⟩) ?_ ?_; rotate_left; { intro w'; go_simp; with_reducible rfl }; rotate_left; { simp only [Act.put, List.setIfInBounds_toArray, List.set_cons_zero, List.set_cons_succ, i64_w, i32_w]; rfl }
              refine pure_ (i := 4) (N := some 36) (v := ?_) (a' := ?_) #[true, false, true, false, true, false, false, false, false, false, false] rfl rfl (any_of HT_.out (by kernel_rfl)) (fun _ _ _ h => h) (Or.inl ⟨by rfl, ?_⟩) ?_ ?_; rotate_left; { intro w'; go_simp; with_reducible rfl }; rotate_left; { simp only [Act.put, List.setIfInBounds_toArray, List.set_cons_zero, List.set_cons_succ, i64_w, i32_w]; rfl }
              refine take_ (i := 1) (N := some 33) (v := ?_) (a' := ?_) #[true, true, true, false, true, false, false, false, false, false, false] rfl rfl (take_ofW HT_.out HW_.out (by kernel_rfl)) (fun _ _ _ h => h) (Or.inl ⟨by rfl, ?_⟩) hHeld ?_ ?_; rotate_left; { rintro w' ⟨s0, s1, s2, s3, s4, s5, s6, s7, s8, s9⟩; go_simp; with_reducible rfl }; rotate_left; { simp only [Act.put, List.setIfInBounds_toArray, List.set_cons_zero, List.set_cons_succ, i64_w, i32_w]; rfl }
              refine take_ (i := 3) (N := some 35) (v := ?_) (a' := ?_) #[true, true, true, true, true, false, false, false, false, false, false] rfl rfl (take_ofW HT_.out HW_.out (by kernel_rfl)) (fun _ _ _ h => h) (Or.inl ⟨by rfl, ?_⟩) hHeld ?_ ?_; rotate_left; { rintro w' ⟨s0, s1, s2, s3, s4, s5, s6, s7, s8, s9⟩; go_simp; with_reducible rfl }; rotate_left; { simp only [Act.put, List.setIfInBounds_toArray, List.set_cons_zero, List.set_cons_succ, i64_w, i32_w]; rfl }
              refine pure_ (i := 5) (N := some 37) (v := ?_) (a' := ?_) #[true, true, true, true, true, true, false, false, false, false, false] rfl rfl (any_of HT_.out (by kernel_rfl)) (fun _ _ _ h => h) (Or.inl ⟨by rfl, ?_⟩) ?_ ?_; rotate_left; { intro w'; go_simp; with_reducible rfl }; rotate_left; { simp only [Act.put, List.setIfInBounds_toArray, List.set_cons_zero, List.set_cons_succ, i64_w, i32_w]; rfl }
              refine take_ (i := 6) (N := some 38) (v := ?_) (a' := ?_) #[true, true, true, true, true, true, true, false, false, false, false] rfl rfl (take_ofW HT_.out HW_.out (by kernel_rfl)) (fun _ _ _ h => h) (Or.inl ⟨by rfl, ?_⟩) hHeld ?_ ?_; rotate_left; { rintro w' ⟨s0, s1, s2, s3, s4, s5, s6, s7, s8, s9⟩; go_simp; with_reducible rfl }; rotate_left; { simp only [Act.put, List.setIfInBounds_toArray, List.set_cons_zero, List.set_cons_succ, i64_w, i32_w]; rfl }
              refine pure_ (i := 7) (N := some 39) (v := ?_) (a' := ?_) #[true, true, true, true, true, true, true, true, false, false, false] rfl rfl (any_of HT_.out (by kernel_rfl)) (fun _ _ _ h => h) (Or.inl ⟨by rfl, ?_⟩) ?_ ?_; rotate_left; { intro w'; go_simp; with_reducible rfl }; rotate_left; { simp only [Act.put, List.setIfInBounds_toArray, List.set_cons_zero, List.set_cons_succ, i64_w, i32_w]; rfl }
              refine take_ (i := 8) (N := some 40) (v := ?_) (a' := ?_) #[true, true, true, true, true, true, true, true, true, false, false] rfl rfl (take_ofW HT_.out HW_.out (by kernel_rfl)) (fun _ _ _ h => h) (Or.inl ⟨by rfl, ?_⟩) hHeld ?_ ?_; rotate_left; { rintro w' ⟨s0, s1, s2, s3, s4, s5, s6, s7, s8, s9⟩; go_simp; with_reducible rfl }; rotate_left; { simp only [Act.put, List.setIfInBounds_toArray, List.set_cons_zero, List.set_cons_succ, i64_w, i32_w]; rfl }
              refine one_ (i := 9) (N := some 9) #[true, true, true, true, true, true, true, true, true, true, false] rfl rfl (one_of HT_.out (by kernel_rfl)) (by decide) (fun K hK => ?_)
              refine box_step ?hg (N := 9) ?hd (cs := #[.int .i64 0, .int .i64 0, .int .i64 0, .slice none 0 0]) (t := 33) ?hr ?_; (case hd => rfl); (case hg => rfl); (case hr => first | (go_simp; done) | (go_simp; rfl))
              intro gb280 hg w38 hbox hb
              have n0_ := Aside0.mk (blk_below (g := gb275) (o := .cells #[.slice (some ad276) l0_0.length c0_0] 24 (0, 0)) (go_k BK275.out) hb)
              have n1_ := Aside0.mk (blk_below (g := gb277) (o := .cells #[.int .i64 ((rd_T33 l0_0 a1).f0), .int .i64 ((rd_T33 l0_0 a1).f1), .int .i64 ((rd_T33 l0_0 a1).f2), .slice (some ad278) ((rd_T33 l0_0 a1).f3).length c276_3] 33 (0, 0)) (go_k BK277.out) hb)
              have n2_ := Aside0.mk (below_step (go_b2 HB.out GE275.out GE277.out) hb)
              have n3_ := Aside0.mk (hbox)
              have n4_ := Aside0.mk ((by rw [hg]; exact (below_size (go_b2 HB.out GE275.out GE277.out)) : w.heap.size ≤ gb280))
              have n5_ := Aside0.mk ((by rw [hg]; exact (below_size (go_b2 HB.out GE275.out GE277.out)) : w.heap.size ≤ gb280))
              have n6_ := Aside0.mk ((by rw [hg]; exact Nat.ne_of_lt (blk_lt (g := gb275) (o := .cells #[.slice (some ad276) l0_0.length c0_0] 24 (0, 0)) (go_k BK275.out)) : gb275 ≠ gb280))
              have n7_ := Aside0.mk ((by rw [hg]; exact Nat.ne_of_gt (blk_lt (g := gb275) (o := .cells #[.slice (some ad276) l0_0.length c0_0] 24 (0, 0)) (go_k BK275.out)) : gb280 ≠ gb275))
              have n8_ := Aside0.mk ((by rw [hg]; exact Nat.ne_of_lt (blk_lt (g := gb277) (o := .cells #[.int .i64 ((rd_T33 l0_0 a1).f0), .int .i64 ((rd_T33 l0_0 a1).f1), .int .i64 ((rd_T33 l0_0 a1).f2), .slice (some ad278) ((rd_T33 l0_0 a1).f3).length c276_3] 33 (0, 0)) (go_k BK277.out)) : gb277 ≠ gb280))
              have n9_ := Aside0.mk ((by rw [hg]; exact Nat.ne_of_gt (blk_lt (g := gb277) (o := .cells #[.int .i64 ((rd_T33 l0_0 a1).f0), .int .i64 ((rd_T33 l0_0 a1).f1), .int .i64 ((rd_T33 l0_0 a1).f2), .slice (some ad278) ((rd_T33 l0_0 a1).f3).length c276_3] 33 (0, 0)) (go_k BK277.out)) : gb280 ≠ gb277))
              clear BK275
              clear BK277
              clear HB
              have BK275 := n0_
              have BK277 := n1_
              have HB := n2_
              have BK280 := n3_
              have GW280 := n4_
              have GE280 := n5_
              have NB275_280 := n6_
              have NB280_275 := n7_
              have NB277_280 := n8_
              have NB280_277 := n9_
              clear n0_ n1_ n2_ n3_ n4_ n5_ n6_ n7_ n8_ n9_
              clear hb hbox hg
              refine hK.out _ _ ⟨(blk_cell BK275.out 0).trans rfl, (blk_cell BK277.out 0).trans rfl, (blk_cell BK277.out 1).trans rfl, (blk_cell BK277.out 2).trans rfl, (blk_cell BK277.out 3).trans rfl, (cell_b HB.out hw278_0), (cell_b HB.out hw279_0), (cell_b HB.out hw279_1), (cell_b HB.out hw279_2), (cell_b HB.out hw279_3)⟩ (fun hHeld => ?_)
              clear hK K
              refine norm_ (a' := ?_) ?_ ?_; rotate_left; { show Act.put _ (some 9) _ = _; simp only [Act.put, List.setIfInBounds_toArray, List.set_cons_zero, List.set_cons_succ, i64_w, i32_w]; rfl }
              refine one_ (i := 10) (N := none) #[true, true, true, true, true, true, true, true, true, true, true] rfl rfl (one_of HT_.out (by kernel_rfl)) (by decide) (fun K hK => ?_)
              have hs39 : w38.cell? ⟨gb280, 0, none⟩ = some (.int .i64 0) := (blk_cell BK280.out 0).trans rfl
              have hfs39 := blk_frozen BK280.out 0
              have hns39_0 := NB275_280.out
              have hns39_1 := NB277_280.out
              have hms39_0 := NB280_275.out
              have hms39_1 := NB280_277.out
              have hs40 : w38.cell? ⟨gb280, 1, none⟩ = some (.int .i64 0) := (blk_cell BK280.out 1).trans rfl
              have hfs40 := blk_frozen BK280.out 1
              have hns40_0 := NB275_280.out
              have hns40_1 := NB277_280.out
              have hms40_0 := NB280_275.out
              have hms40_1 := NB280_277.out
              have hs41 : w38.cell? ⟨gb280, 2, none⟩ = some (.int .i64 0) := (blk_cell BK280.out 2).trans rfl
              have hfs41 := blk_frozen BK280.out 2
              have hns41_0 := NB275_280.out
              have hns41_1 := NB277_280.out
              have hms41_0 := NB280_275.out
              have hms41_1 := NB280_277.out
              have hs42 : w38.cell? ⟨gb280, 3, none⟩ = some (.slice none 0 0) := (blk_cell BK280.out 3).trans rfl
              have hfs42 := blk_frozen BK280.out 3
              have hns42_0 := NB275_280.out
              have hns42_1 := NB277_280.out
              have hms42_0 := NB280_275.out
              have hms42_1 := NB280_277.out
              refine skip_ (w1 := ?_) (by rfl) rfl ?_ ?_; rotate_left; { go_simp; rfl }
              refine hK.out _ _ ⟨((cell_far (p := ⟨gb280, _, none⟩) NB275_280.out _).trans (((cell_far (p := ⟨gb280, _, none⟩) NB275_280.out _).trans (((cell_far (p := ⟨gb280, _, none⟩) NB275_280.out _).trans (((cell_far (p := ⟨gb280, _, none⟩) NB275_280.out _).trans (hHeld.1)))))))), ((cell_far (p := ⟨gb280, _, none⟩) NB277_280.out _).trans (((cell_far (p := ⟨gb280, _, none⟩) NB277_280.out _).trans (((cell_far (p := ⟨gb280, _, none⟩) NB277_280.out _).trans (((cell_far (p := ⟨gb280, _, none⟩) NB277_280.out _).trans (hHeld.2.1)))))))), ((cell_far (p := ⟨gb280, _, none⟩) NB277_280.out _).trans (((cell_far (p := ⟨gb280, _, none⟩) NB277_280.out _).trans (((cell_far (p := ⟨gb280, _, none⟩) NB277_280.out _).trans (((cell_far (p := ⟨gb280, _, none⟩) NB277_280.out _).trans (hHeld.2.2.1)))))))), ((cell_far (p := ⟨gb280, _, none⟩) NB277_280.out _).trans (((cell_far (p := ⟨gb280, _, none⟩) NB277_280.out _).trans (((cell_far (p := ⟨gb280, _, none⟩) NB277_280.out _).trans (((cell_far (p := ⟨gb280, _, none⟩) NB277_280.out _).trans (hHeld.2.2.2.1)))))))), ((cell_far (p := ⟨gb280, _, none⟩) NB277_280.out _).trans (((cell_far (p := ⟨gb280, _, none⟩) NB277_280.out _).trans (((cell_far (p := ⟨gb280, _, none⟩) NB277_280.out _).trans (((cell_far (p := ⟨gb280, _, none⟩) NB277_280.out _).trans (hHeld.2.2.2.2.1)))))))), ((far_c hw278_0 GW280.out).trans (((far_c hw278_0 GW280.out).trans (((far_c hw278_0 GW280.out).trans (((far_c hw278_0 GW280.out).trans (hHeld.2.2.2.2.2.1)))))))), ((far_c hw279_0 GW280.out).trans (((far_c hw279_0 GW280.out).trans (((far_c hw279_0 GW280.out).trans (((far_c hw279_0 GW280.out).trans (hHeld.2.2.2.2.2.2.1)))))))), ((far_c hw279_1 GW280.out).trans (((far_c hw279_1 GW280.out).trans (((far_c hw279_1 GW280.out).trans (((far_c hw279_1 GW280.out).trans (hHeld.2.2.2.2.2.2.2.1)))))))), ((far_c hw279_2 GW280.out).trans (((far_c hw279_2 GW280.out).trans (((far_c hw279_2 GW280.out).trans (((far_c hw279_2 GW280.out).trans (hHeld.2.2.2.2.2.2.2.2.1)))))))), ((far_c hw279_3 GW280.out).trans (((far_c hw279_3 GW280.out).trans (((far_c hw279_3 GW280.out).trans (((far_c hw279_3 GW280.out).trans (hHeld.2.2.2.2.2.2.2.2.2))))))))⟩ (fun hHeld => ?_)
              clear hK K
              refine done_ (done_of HT_.out (by kernel_rfl)) ?_
              have hnb43 := NB280_275.out
              have hnc43 := NB275_280.out
              have hnb44 := NB280_277.out
              have hnc44 := NB277_280.out
              have hcz45_0 : w38.cell? ⟨gb280, 0, none⟩ = some (.int .i64 0) := (blk_cell BK280.out 0).trans rfl
              have hcz45_1 : w38.cell? ⟨gb280, 1, none⟩ = some (.int .i64 0) := (blk_cell BK280.out 1).trans rfl
              have hcz45_2 : w38.cell? ⟨gb280, 2, none⟩ = some (.int .i64 0) := (blk_cell BK280.out 2).trans rfl
              have hcz45_3 : w38.cell? ⟨gb280, 3, none⟩ = some (.slice none 0 0) := (blk_cell BK280.out 3).trans rfl
              have hfz45_0 := blk_frozen BK280.out 0
              have hfz45_1 := blk_frozen BK280.out 1
              have hfz45_2 := blk_frozen BK280.out 2
              have hfz45_3 := blk_frozen BK280.out 3
              try go_wp2
              go_roundg k2
              case measure => have := HJ5.out; have := HK2.out; omega
              case rel => exact ⟨(wrap64 (x8_2 + 1)), (by first | rfl | (simp; done) | (simp [*]; done)), H', ⟨by have := HJ5.out; have := HK2.out; omega⟩, ⟨by (with_reducible repeat (first | refine blk_drewN ?_ _ | refine blk_drew ?_ | refine blk_alloc ?_ _)); refine blk_far ?_ NB275_280.out _; refine blk_far ?_ NB275_280.out _; refine blk_far ?_ NB275_280.out _; refine blk_far ?_ NB275_280.out _; (with_reducible repeat (first | refine blk_drewN ?_ _ | refine blk_drew ?_ | refine blk_alloc ?_ _)); exact BK275.out⟩, ⟨by (with_reducible repeat (first | refine blk_drewN ?_ _ | refine blk_drew ?_ | refine blk_alloc ?_ _)); refine blk_far ?_ NB277_280.out _; refine blk_far ?_ NB277_280.out _; refine blk_far ?_ NB277_280.out _; refine blk_far ?_ NB277_280.out _; (with_reducible repeat (first | refine blk_drewN ?_ _ | refine blk_drew ?_ | refine blk_alloc ?_ _)); exact BK277.out⟩, ⟨by repeat (first | (with_reducible first | exact HB.out | apply below_alloc | apply pw_below_drewN | apply below_drew1 | refine below_set ?_ GE275.out | refine below_set ?_ GE277.out | refine below_set ?_ GE280.out) | exact HB.out)⟩⟩
            ·rw [if_neg c22] at H
             have c22b0 : decide (((rd_T33 l0_0 (rd ((rd_T33 l0_0 a1).f3) x8_2)).f1) ≤ a2) = false := decide_eq_false c22
             clear c22
             have H' := Aside0.mk H
             clear H
             have hnb46 := NB277_275.out
             have hnc46 := NB275_277.out
             have hcz47_0 : wr.cell? ⟨gb277, 0, none⟩ = some (.int .i64 ((rd_T33 l0_0 a1).f0)) := (blk_cell BK277.out 0).trans rfl
             have hcz47_1 : wr.cell? ⟨gb277, 1, none⟩ = some (.int .i64 ((rd_T33 l0_0 a1).f1)) := (blk_cell BK277.out 1).trans rfl
             have hcz47_2 : wr.cell? ⟨gb277, 2, none⟩ = some (.int .i64 ((rd_T33 l0_0 a1).f2)) := (blk_cell BK277.out 2).trans rfl
             have hcz47_3 : wr.cell? ⟨gb277, 3, none⟩ = some (.slice A276_3 ((rd_T33 l0_0 a1).f3).length c276_3) := (blk_cell BK277.out 3).trans rfl
             have hfz47_0 := blk_frozen BK277.out 0
             have hfz47_1 := blk_frozen BK277.out 1
             have hfz47_2 := blk_frozen BK277.out 2
             have hfz47_3 := blk_frozen BK277.out 3
             try go_wp2
             have n0_ := Aside0.mk (blk_drew BK275.out)
             have n1_ := Aside0.mk (blk_drew BK277.out)
             have n2_ := Aside0.mk (below_drew1 HB.out)
             clear BK275
             clear BK277
             clear HB
             have BK275 := n0_
             have BK277 := n1_
             have HB := n2_
             clear n0_ n1_ n2_
             have p278 : 0 ≤ (x8_2 : Int) := of_dec
             have q278 : x8_2 < (((rd_T33 l0_0 a1).f3).length : Int) := of_dec
             obtain ⟨ad278, e278, hx278_0⟩ := Kd.at_int HR276_3.out x8_2 p278 q278
             have hw278_0 := hx278_0
             cases e278
             replace hx278_0 := cell_b HB.out hx278_0
             replace p278 := eq_true p278
             replace q278 := eq_true q278
             have p279 : 0 ≤ ((rd ((rd_T33 l0_0 a1).f3) x8_2) : Int) := of_dec
             have q279 : (rd ((rd_T33 l0_0 a1).f3) x8_2) < (l0_0.length : Int) := of_dec
             obtain ⟨ad279, A279_3, c279_3, e279, hx279_0, hx279_1, hx279_2, hx279_3, hl279_3, hi279_3⟩ := at_T33 HR0_0.out (rd ((rd_T33 l0_0 a1).f3) x8_2) p279 q279
             have hw279_3 := hx279_3
             have hw279_2 := hx279_2
             have hw279_1 := hx279_1
             have hw279_0 := hx279_0
             obtain rfl : ad276 = ad279 := (by injection e279)
             replace hx279_0 := cell_b HB.out hx279_0
             replace hx279_1 := cell_b HB.out hx279_1
             replace hx279_2 := cell_b HB.out hx279_2
             replace hx279_3 := cell_b HB.out hx279_3
             have HR279_3 := Aside0.mk hi279_3
             have HC279_3 := Aside0.mk hl279_3
             clear hi279_3 hl279_3
             replace p279 := eq_true p279
             replace q279 := eq_true q279
             refine start_ (n := 11) (S := fun w' => w'.cell? ⟨gb275, 0, none⟩ = some (.slice (some ad276) l0_0.length c0_0) ∧ w'.cell? ⟨gb277, 0, none⟩ = some (.int .i64 ((rd_T33 l0_0 a1).f0)) ∧ w'.cell? ⟨gb277, 1, none⟩ = some (.int .i64 ((rd_T33 l0_0 a1).f1)) ∧ w'.cell? ⟨gb277, 2, none⟩ = some (.int .i64 ((rd_T33 l0_0 a1).f2)) ∧ w'.cell? ⟨gb277, 3, none⟩ = some (.slice (some ad278) ((rd_T33 l0_0 a1).f3).length c276_3) ∧ w'.cell? (ad278.add (x8_2).toNat) = some (.int .i64 (rd ((rd_T33 l0_0 a1).f3) x8_2)) ∧ w'.cell? (ad276.add (((rd ((rd_T33 l0_0 a1).f3) x8_2)).toNat * 4)) = some (.int .i64 ((rd_T33 l0_0 (rd ((rd_T33 l0_0 a1).f3) x8_2)).f0)) ∧ w'.cell? ⟨(ad276.add (((rd ((rd_T33 l0_0 a1).f3) x8_2)).toNat * 4)).block, (ad276.add (((rd ((rd_T33 l0_0 a1).f3) x8_2)).toNat * 4)).off + 1, none⟩ = some (.int .i64 ((rd_T33 l0_0 (rd ((rd_T33 l0_0 a1).f3) x8_2)).f1)) ∧ w'.cell? ⟨(ad276.add (((rd ((rd_T33 l0_0 a1).f3) x8_2)).toNat * 4)).block, (ad276.add (((rd ((rd_T33 l0_0 a1).f3) x8_2)).toNat * 4)).off + 2, none⟩ = some (.int .i64 ((rd_T33 l0_0 (rd ((rd_T33 l0_0 a1).f3) x8_2)).f2)) ∧ w'.cell? ⟨(ad276.add (((rd ((rd_T33 l0_0 a1).f3) x8_2)).toNat * 4)).block, (ad276.add (((rd ((rd_T33 l0_0 a1).f3) x8_2)).toNat * 4)).off + 3, none⟩ = some (.slice A279_3 ((rd_T33 l0_0 (rd ((rd_T33 l0_0 a1).f3) x8_2)).f3).length c279_3)) (ds := []) #[false, false, false, false, false, false, false, false, false, false, false] (by kernel_rfl) rfl rfl ⟨(blk_cell BK275.out 0).trans rfl, (blk_cell BK277.out 0).trans rfl, (blk_cell BK277.out 1).trans rfl, (blk_cell BK277.out 2).trans rfl, (blk_cell BK277.out 3).trans rfl, (cell_b HB.out hw278_0), (cell_b HB.out hw279_0), (cell_b HB.out hw279_1), (cell_b HB.out hw279_2), (cell_b HB.out hw279_3)⟩ (fun hHeld => ?_); refine with_tabW cavilref13_Owns.tab7 cavilref13_Owns.bits7 (fun HT_ HW_ => ?_)
             generalize wr.drew = w48 at BK275 BK277 HB HR279_3 hx278_0 hx279_0 hx279_1 hx279_2 hx279_3 hHeld ⊢
             refine pure_ (i := 0) (N := some 32) (v := ?_) (a' := ?_) #[true, false, false, false, false, false, false, false, false, false, false] rfl rfl (any_of HT_.out (by kernel_rfl)) (fun _ _ _ h => h) (Or.inl ⟨by rfl, ?_⟩) ?_ ?_; rotate_left; { intro w'; go_simp; with_reducible rfl }; rotate_left; { simp only [Act.put, List.setIfInBounds_toArray, List.set_cons_zero, List.set_cons_succ, i64_w, i32_w]; rfl }
             refine pure_ (i := 2) (N := some 34) (v := ?_) (a' := ?_) #[true, false, true, false, false, false, false, false, false, false, false] rfl rfl (any_of HT_.out (by kernel_rfl)) (fun _ _ _ h => h) (Or.inl ⟨by rfl, ?_⟩) ?_ ?_; rotate_left; { intro w'; go_simp; with_reducible rfl }; rotate_left; { simp only [Act.put, List.setIfInBounds_toArray, List.set_cons_zero, List.set_cons_succ, i64_w, i32_w]; rfl }
             refine pure_ (i := 4) (N := some 36) (v := ?_) (a' := ?_) #[true, false, true, false, true, false, false, false, false, false, false] rfl rfl (any_of HT_.out (by kernel_rfl)) (fun _ _ _ h => h) (Or.inl ⟨by rfl, ?_⟩) ?_ ?_; rotate_left; { intro w'; go_simp; with_reducible rfl }; rotate_left; { simp only [Act.put, List.setIfInBounds_toArray, List.set_cons_zero, List.set_cons_succ, i64_w, i32_w]; rfl }
             refine take_ (i := 1) (N := some 33) (v := ?_) (a' := ?_) #[true, true, true, false, true, false, false, false, false, false, false] rfl rfl (take_ofW HT_.out HW_.out (by kernel_rfl)) (fun _ _ _ h => h) (Or.inl ⟨by rfl, ?_⟩) hHeld ?_ ?_; rotate_left; { rintro w' ⟨s0, s1, s2, s3, s4, s5, s6, s7, s8, s9⟩; go_simp; with_reducible rfl }; rotate_left; { simp only [Act.put, List.setIfInBounds_toArray, List.set_cons_zero, List.set_cons_succ, i64_w, i32_w]; rfl }
             refine take_ (i := 3) (N := some 35) (v := ?_) (a' := ?_) #[true, true, true, true, true, false, false, false, false, false, false] rfl rfl (take_ofW HT_.out HW_.out (by kernel_rfl)) (fun _ _ _ h => h) (Or.inl ⟨by rfl, ?_⟩) hHeld ?_ ?_; rotate_left; { rintro w' ⟨s0, s1, s2, s3, s4, s5, s6, s7, s8, s9⟩; go_simp; with_reducible rfl }; rotate_left; { simp only [Act.put, List.setIfInBounds_toArray, List.set_cons_zero, List.set_cons_succ, i64_w, i32_w]; rfl }
             refine pure_ (i := 5) (N := some 37) (v := ?_) (a' := ?_) #[true, true, true, true, true, true, false, false, false, false, false] rfl rfl (any_of HT_.out (by kernel_rfl)) (fun _ _ _ h => h) (Or.inl ⟨by rfl, ?_⟩) ?_ ?_; rotate_left; { intro w'; go_simp; with_reducible rfl }; rotate_left; { simp only [Act.put, List.setIfInBounds_toArray, List.set_cons_zero, List.set_cons_succ, i64_w, i32_w]; rfl }
             refine take_ (i := 6) (N := some 38) (v := ?_) (a' := ?_) #[true, true, true, true, true, true, true, false, false, false, false] rfl rfl (take_ofW HT_.out HW_.out (by kernel_rfl)) (fun _ _ _ h => h) (Or.inl ⟨by rfl, ?_⟩) hHeld ?_ ?_; rotate_left; { rintro w' ⟨s0, s1, s2, s3, s4, s5, s6, s7, s8, s9⟩; go_simp; with_reducible rfl }; rotate_left; { simp only [Act.put, List.setIfInBounds_toArray, List.set_cons_zero, List.set_cons_succ, i64_w, i32_w]; rfl }
             refine pure_ (i := 7) (N := some 39) (v := ?_) (a' := ?_) #[true, true, true, true, true, true, true, true, false, false, false] rfl rfl (any_of HT_.out (by kernel_rfl)) (fun _ _ _ h => h) (Or.inl ⟨by rfl, ?_⟩) ?_ ?_; rotate_left; { intro w'; go_simp; with_reducible rfl }; rotate_left; { simp only [Act.put, List.setIfInBounds_toArray, List.set_cons_zero, List.set_cons_succ, i64_w, i32_w]; rfl }
             refine take_ (i := 8) (N := some 40) (v := ?_) (a' := ?_) #[true, true, true, true, true, true, true, true, true, false, false] rfl rfl (take_ofW HT_.out HW_.out (by kernel_rfl)) (fun _ _ _ h => h) (Or.inl ⟨by rfl, ?_⟩) hHeld ?_ ?_; rotate_left; { rintro w' ⟨s0, s1, s2, s3, s4, s5, s6, s7, s8, s9⟩; go_simp; with_reducible rfl }; rotate_left; { simp only [Act.put, List.setIfInBounds_toArray, List.set_cons_zero, List.set_cons_succ, i64_w, i32_w]; rfl }
             refine one_ (i := 9) (N := some 9) #[true, true, true, true, true, true, true, true, true, true, false] rfl rfl (one_of HT_.out (by kernel_rfl)) (by decide) (fun K hK => ?_)
             refine box_step ?hg (N := 9) ?hd (cs := #[.int .i64 0, .int .i64 0, .int .i64 0, .slice none 0 0]) (t := 33) ?hr ?_; (case hd => rfl); (case hg => rfl); (case hr => first | (go_simp; done) | (go_simp; rfl))
             intro gb280 hg w49 hbox hb
             have n0_ := Aside0.mk (blk_below (g := gb275) (o := .cells #[.slice (some ad276) l0_0.length c0_0] 24 (0, 0)) (go_k BK275.out) hb)
             have n1_ := Aside0.mk (blk_below (g := gb277) (o := .cells #[.int .i64 ((rd_T33 l0_0 a1).f0), .int .i64 ((rd_T33 l0_0 a1).f1), .int .i64 ((rd_T33 l0_0 a1).f2), .slice (some ad278) ((rd_T33 l0_0 a1).f3).length c276_3] 33 (0, 0)) (go_k BK277.out) hb)
             have n2_ := Aside0.mk (below_step (go_b2 HB.out GE275.out GE277.out) hb)
             have n3_ := Aside0.mk (hbox)
             have n4_ := Aside0.mk ((by rw [hg]; exact (below_size (go_b2 HB.out GE275.out GE277.out)) : w.heap.size ≤ gb280))
             have n5_ := Aside0.mk ((by rw [hg]; exact (below_size (go_b2 HB.out GE275.out GE277.out)) : w.heap.size ≤ gb280))
             have n6_ := Aside0.mk ((by rw [hg]; exact Nat.ne_of_lt (blk_lt (g := gb275) (o := .cells #[.slice (some ad276) l0_0.length c0_0] 24 (0, 0)) (go_k BK275.out)) : gb275 ≠ gb280))
             have n7_ := Aside0.mk ((by rw [hg]; exact Nat.ne_of_gt (blk_lt (g := gb275) (o := .cells #[.slice (some ad276) l0_0.length c0_0] 24 (0, 0)) (go_k BK275.out)) : gb280 ≠ gb275))
             have n8_ := Aside0.mk ((by rw [hg]; exact Nat.ne_of_lt (blk_lt (g := gb277) (o := .cells #[.int .i64 ((rd_T33 l0_0 a1).f0), .int .i64 ((rd_T33 l0_0 a1).f1), .int .i64 ((rd_T33 l0_0 a1).f2), .slice (some ad278) ((rd_T33 l0_0 a1).f3).length c276_3] 33 (0, 0)) (go_k BK277.out)) : gb277 ≠ gb280))
             have n9_ := Aside0.mk ((by rw [hg]; exact Nat.ne_of_gt (blk_lt (g := gb277) (o := .cells #[.int .i64 ((rd_T33 l0_0 a1).f0), .int .i64 ((rd_T33 l0_0 a1).f1), .int .i64 ((rd_T33 l0_0 a1).f2), .slice (some ad278) ((rd_T33 l0_0 a1).f3).length c276_3] 33 (0, 0)) (go_k BK277.out)) : gb280 ≠ gb277))
             clear BK275
             clear BK277
             clear HB
             have BK275 := n0_
             have BK277 := n1_
             have HB := n2_
             have BK280 := n3_
             have GW280 := n4_
             have GE280 := n5_
             have NB275_280 := n6_
             have NB280_275 := n7_
             have NB277_280 := n8_
             have NB280_277 := n9_
             clear n0_ n1_ n2_ n3_ n4_ n5_ n6_ n7_ n8_ n9_
             clear hb hbox hg
             refine hK.out _ _ ⟨(blk_cell BK275.out 0).trans rfl, (blk_cell BK277.out 0).trans rfl, (blk_cell BK277.out 1).trans rfl, (blk_cell BK277.out 2).trans rfl, (blk_cell BK277.out 3).trans rfl, (cell_b HB.out hw278_0), (cell_b HB.out hw279_0), (cell_b HB.out hw279_1), (cell_b HB.out hw279_2), (cell_b HB.out hw279_3)⟩ (fun hHeld => ?_)
             clear hK K
             refine norm_ (a' := ?_) ?_ ?_; rotate_left; { show Act.put _ (some 9) _ = _; simp only [Act.put, List.setIfInBounds_toArray, List.set_cons_zero, List.set_cons_succ, i64_w, i32_w]; rfl }
             refine one_ (i := 10) (N := none) #[true, true, true, true, true, true, true, true, true, true, true] rfl rfl (one_of HT_.out (by kernel_rfl)) (by decide) (fun K hK => ?_)
             have hs50 : w49.cell? ⟨gb280, 0, none⟩ = some (.int .i64 0) := (blk_cell BK280.out 0).trans rfl
             have hfs50 := blk_frozen BK280.out 0
             have hns50_0 := NB275_280.out
             have hns50_1 := NB277_280.out
             have hms50_0 := NB280_275.out
             have hms50_1 := NB280_277.out
             have hs51 : w49.cell? ⟨gb280, 1, none⟩ = some (.int .i64 0) := (blk_cell BK280.out 1).trans rfl
             have hfs51 := blk_frozen BK280.out 1
             have hns51_0 := NB275_280.out
             have hns51_1 := NB277_280.out
             have hms51_0 := NB280_275.out
             have hms51_1 := NB280_277.out
             have hs52 : w49.cell? ⟨gb280, 2, none⟩ = some (.int .i64 0) := (blk_cell BK280.out 2).trans rfl
             have hfs52 := blk_frozen BK280.out 2
             have hns52_0 := NB275_280.out
             have hns52_1 := NB277_280.out
             have hms52_0 := NB280_275.out
             have hms52_1 := NB280_277.out
             have hs53 : w49.cell? ⟨gb280, 3, none⟩ = some (.slice none 0 0) := (blk_cell BK280.out 3).trans rfl
             have hfs53 := blk_frozen BK280.out 3
             have hns53_0 := NB275_280.out
             have hns53_1 := NB277_280.out
             have hms53_0 := NB280_275.out
             have hms53_1 := NB280_277.out
             refine skip_ (w1 := ?_) (by rfl) rfl ?_ ?_; rotate_left; { go_simp; rfl }
             refine hK.out _ _ ⟨((cell_far (p := ⟨gb280, _, none⟩) NB275_280.out _).trans (((cell_far (p := ⟨gb280, _, none⟩) NB275_280.out _).trans (((cell_far (p := ⟨gb280, _, none⟩) NB275_280.out _).trans (((cell_far (p := ⟨gb280, _, none⟩) NB275_280.out _).trans (hHeld.1)))))))), ((cell_far (p := ⟨gb280, _, none⟩) NB277_280.out _).trans (((cell_far (p := ⟨gb280, _, none⟩) NB277_280.out _).trans (((cell_far (p := ⟨gb280, _, none⟩) NB277_280.out _).trans (((cell_far (p := ⟨gb280, _, none⟩) NB277_280.out _).trans (hHeld.2.1)))))))), ((cell_far (p := ⟨gb280, _, none⟩) NB277_280.out _).trans (((cell_far (p := ⟨gb280, _, none⟩) NB277_280.out _).trans (((cell_far (p := ⟨gb280, _, none⟩) NB277_280.out _).trans (((cell_far (p := ⟨gb280, _, none⟩) NB277_280.out _).trans (hHeld.2.2.1)))))))), ((cell_far (p := ⟨gb280, _, none⟩) NB277_280.out _).trans (((cell_far (p := ⟨gb280, _, none⟩) NB277_280.out _).trans (((cell_far (p := ⟨gb280, _, none⟩) NB277_280.out _).trans (((cell_far (p := ⟨gb280, _, none⟩) NB277_280.out _).trans (hHeld.2.2.2.1)))))))), ((cell_far (p := ⟨gb280, _, none⟩) NB277_280.out _).trans (((cell_far (p := ⟨gb280, _, none⟩) NB277_280.out _).trans (((cell_far (p := ⟨gb280, _, none⟩) NB277_280.out _).trans (((cell_far (p := ⟨gb280, _, none⟩) NB277_280.out _).trans (hHeld.2.2.2.2.1)))))))), ((far_c hw278_0 GW280.out).trans (((far_c hw278_0 GW280.out).trans (((far_c hw278_0 GW280.out).trans (((far_c hw278_0 GW280.out).trans (hHeld.2.2.2.2.2.1)))))))), ((far_c hw279_0 GW280.out).trans (((far_c hw279_0 GW280.out).trans (((far_c hw279_0 GW280.out).trans (((far_c hw279_0 GW280.out).trans (hHeld.2.2.2.2.2.2.1)))))))), ((far_c hw279_1 GW280.out).trans (((far_c hw279_1 GW280.out).trans (((far_c hw279_1 GW280.out).trans (((far_c hw279_1 GW280.out).trans (hHeld.2.2.2.2.2.2.2.1)))))))), ((far_c hw279_2 GW280.out).trans (((far_c hw279_2 GW280.out).trans (((far_c hw279_2 GW280.out).trans (((far_c hw279_2 GW280.out).trans (hHeld.2.2.2.2.2.2.2.2.1)))))))), ((far_c hw279_3 GW280.out).trans (((far_c hw279_3 GW280.out).trans (((far_c hw279_3 GW280.out).trans (((far_c hw279_3 GW280.out).trans (hHeld.2.2.2.2.2.2.2.2.2))))))))⟩ (fun hHeld => ?_)
             clear hK K
             refine done_ (done_of HT_.out (by kernel_rfl)) ?_
             have hnb54 := NB280_275.out
             have hnc54 := NB275_280.out
             have hnb55 := NB280_277.out
             have hnc55 := NB277_280.out
             have hcz56_0 : w49.cell? ⟨gb280, 0, none⟩ = some (.int .i64 0) := (blk_cell BK280.out 0).trans rfl
             have hcz56_1 : w49.cell? ⟨gb280, 1, none⟩ = some (.int .i64 0) := (blk_cell BK280.out 1).trans rfl
             have hcz56_2 : w49.cell? ⟨gb280, 2, none⟩ = some (.int .i64 0) := (blk_cell BK280.out 2).trans rfl
             have hcz56_3 : w49.cell? ⟨gb280, 3, none⟩ = some (.slice none 0 0) := (blk_cell BK280.out 3).trans rfl
             have hfz56_0 := blk_frozen BK280.out 0
             have hfz56_1 := blk_frozen BK280.out 1
             have hfz56_2 := blk_frozen BK280.out 2
             have hfz56_3 := blk_frozen BK280.out 3
             try go_wp2
             go_roundg k2
             case measure => have := HJ5.out; have := HK2.out; omega
             case rel => exact ⟨(wrap64 (x8_2 + 1)), (by first | rfl | (simp; done) | (simp [*]; done)), H', ⟨by have := HJ5.out; have := HK2.out; omega⟩, ⟨by (with_reducible repeat (first | refine blk_drewN ?_ _ | refine blk_drew ?_ | refine blk_alloc ?_ _)); refine blk_far ?_ NB275_280.out _; refine blk_far ?_ NB275_280.out _; refine blk_far ?_ NB275_280.out _; refine blk_far ?_ NB275_280.out _; (with_reducible repeat (first | refine blk_drewN ?_ _ | refine blk_drew ?_ | refine blk_alloc ?_ _)); exact BK275.out⟩, ⟨by (with_reducible repeat (first | refine blk_drewN ?_ _ | refine blk_drew ?_ | refine blk_alloc ?_ _)); refine blk_far ?_ NB277_280.out _; refine blk_far ?_ NB277_280.out _; refine blk_far ?_ NB277_280.out _; refine blk_far ?_ NB277_280.out _; (with_reducible repeat (first | refine blk_drewN ?_ _ | refine blk_drew ?_ | refine blk_alloc ?_ _)); exact BK277.out⟩, ⟨by repeat (first | (with_reducible first | exact HB.out | apply below_alloc | apply pw_below_drewN | apply below_drew1 | refine below_set ?_ GE275.out | refine below_set ?_ GE277.out | refine below_set ?_ GE280.out) | exact HB.out)⟩⟩
           ·rw [if_neg c21] at H
            exact absurd H (by simp)
          ·rw [if_neg c20] at H
           exact absurd H (by simp)
         ·rw [if_neg c19] at H
          exact absurd H (by simp)
        ·rw [if_neg c18] at H
         have c18b0 : decide (x8_2 < (((rd_T33 l0_0 a1).f3).length : Int)) = false := decide_eq_false c18
         clear c18
         obtain rfl := Option.some.inj H
         have hnb57 := NB277_275.out
         have hnc57 := NB275_277.out
         have hcz58_0 : wr.cell? ⟨gb277, 0, none⟩ = some (.int .i64 ((rd_T33 l0_0 a1).f0)) := (blk_cell BK277.out 0).trans rfl
         have hcz58_1 : wr.cell? ⟨gb277, 1, none⟩ = some (.int .i64 ((rd_T33 l0_0 a1).f1)) := (blk_cell BK277.out 1).trans rfl
         have hcz58_2 : wr.cell? ⟨gb277, 2, none⟩ = some (.int .i64 ((rd_T33 l0_0 a1).f2)) := (blk_cell BK277.out 2).trans rfl
         have hcz58_3 : wr.cell? ⟨gb277, 3, none⟩ = some (.slice A276_3 ((rd_T33 l0_0 a1).f3).length c276_3) := (blk_cell BK277.out 3).trans rfl
         have hfz58_0 := blk_frozen BK277.out 0
         have hfz58_1 := blk_frozen BK277.out 1
         have hfz58_2 := blk_frozen BK277.out 2
         have hfz58_3 := blk_frozen BK277.out 3
         go_wp2
         go_ret
         exact ⟨by first | rfl | (simp [*, errW_none, errW_some, erT_no, erV_no, erT_at, erV_at] <;> rfl), by repeat (first | (with_reducible first | exact HB.out | apply below_alloc | apply pw_below_drewN | apply below_drew1 | refine below_set ?_ GE275.out | refine below_set ?_ GE277.out) | exact HB.out)⟩
  ·rw [if_neg c5] at H
   exact absurd H (by simp)
 ·rw [if_neg c4] at H
  exact absurd H (by simp)

end Go.Proofs.YtnpgadfoohjlnaaDoor.QV
