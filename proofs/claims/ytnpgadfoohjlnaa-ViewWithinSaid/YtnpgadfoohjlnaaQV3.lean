/- Where a Lean function of this text answers, the Go function of its name comes to that answer: no other condition. Written by a program of this session out of the translation; Lean checks it. -/
import Derived.Test.YtnpgadfoohjlnaaQV0
namespace Go.Proofs.Ytnpgadfoohjlnaa.QV
open Go.RowKit Go.Proofs.YtnpgadfoohjlnaaW.PrintWords Go.Proofs.YtnpgadfoohjlnaaW.PrintLast Go.Proofs.YtnpgadfoohjlnaaW.PrintMore Go.Proofs.YtnpgadfoohjlnaaW.PrintX
attribute [local go_sem] max2_int min2_int max_two min_two max_three min_three max_four min_four   -- for this text's walks alone
set_option linter.unusedVariables false
set_option linter.unusedSimpArgs false

/-! ### tree_one: function 45 -/
mutual
def tree_one.j0 : Nat → Int → Bool → List (S44) → Int → Int → Int → List Int → Option (Bool)
  | 0, _, _, _, _, _, _, _ => none
  | k + 1, x1, x41, x115000, x117000, x117001, x117002, x117003 => if x41 = true then (some false) else (tree_one.l0 k x1 x117001 x117003 (x117003.length : Int) 0 x115000 x117000 x117001 x117002 x117003)
def tree_one.l0 : Nat → Int → Int → List Int → Int → Int → List (S44) → Int → Int → Int → List Int → Option (Bool)
  | 0, _, _, _, _, _, _, _, _, _, _ => none
  | k + 1, x1, x8, x45, x46, x47, x115000, x117000, x117001, x117002, x117003 => if x47 < x46 then (if 0 ≤ x47 then (if x47 < (x45.length : Int) then (if (rd x45 x47) < 0 then (some false) else (if (rd x45 x47) ≥ x1 then (some false) else (if 0 ≤ (rd x45 x47) then (if (rd x45 x47) < (x115000.length : Int) then (if ((rd_T44 x115000 (rd x45 x47)).f1) < x8 then (some false) else (tree_one.l0 k x1 ((rd_T44 x115000 (rd x45 x47)).f2) x45 x46 (wrap64 (x47 + 1)) x115000 x117000 x117001 x117002 x117003)) else (none)) else (none)))) else (none)) else (none)) else (some (decide (x8 ≤ x117002)))
end
def tree_one.f (k : Nat) (l0_0 : List (S44)) (a1 : Int) (a2 : Int) : Option (Bool) := if 0 ≤ a1 then (if a1 < (l0_0.length : Int) then (if ((rd_T44 l0_0 a1).f0) < 0 then (tree_one.j0 k a1 true l0_0 ((rd_T44 l0_0 a1).f0) ((rd_T44 l0_0 a1).f1) ((rd_T44 l0_0 a1).f2) ((rd_T44 l0_0 a1).f3)) else (if ((rd_T44 l0_0 a1).f0) > 66 then (tree_one.j0 k a1 true l0_0 ((rd_T44 l0_0 a1).f0) ((rd_T44 l0_0 a1).f1) ((rd_T44 l0_0 a1).f2) ((rd_T44 l0_0 a1).f3)) else (if ((rd_T44 l0_0 a1).f1) < 0 then (tree_one.j0 k a1 true l0_0 ((rd_T44 l0_0 a1).f0) ((rd_T44 l0_0 a1).f1) ((rd_T44 l0_0 a1).f2) ((rd_T44 l0_0 a1).f3)) else (if ((rd_T44 l0_0 a1).f1) > ((rd_T44 l0_0 a1).f2) then (tree_one.j0 k a1 true l0_0 ((rd_T44 l0_0 a1).f0) ((rd_T44 l0_0 a1).f1) ((rd_T44 l0_0 a1).f2) ((rd_T44 l0_0 a1).f3)) else (tree_one.j0 k a1 (decide (((rd_T44 l0_0 a1).f2) > a2)) l0_0 ((rd_T44 l0_0 a1).f0) ((rd_T44 l0_0 a1).f1) ((rd_T44 l0_0 a1).f2) ((rd_T44 l0_0 a1).f3)))))) else (none)) else (none)
theorem tree_one.mono_l : ∀ k, (∀ y0 y1 y2 y3 y4 y5 y6, LeO (tree_one.j0 k y0 y1 y2 y3 y4 y5 y6) (tree_one.j0 (k + 1) y0 y1 y2 y3 y4 y5 y6)) ∧ (∀ y0 y1 y2 y3 y4 y5 y6 y7 y8 y9, LeO (tree_one.l0 k y0 y1 y2 y3 y4 y5 y6 y7 y8 y9) (tree_one.l0 (k + 1) y0 y1 y2 y3 y4 y5 y6 y7 y8 y9))
  | 0 => ⟨fun _ _ _ _ _ _ _ r h => by simp [tree_one.j0] at h, fun _ _ _ _ _ _ _ _ _ _ r h => by simp [tree_one.l0] at h⟩
  | k + 1 => by
    obtain ⟨ih0, ih1⟩ := tree_one.mono_l k
    refine ⟨?_, ?_⟩
    · intro y0 y1 y2 y3 y4 y5 y6
      unfold tree_one.j0
      repeat' first
      | (with_reducible exact ih0 _ _ _ _ _ _ _)
      | (with_reducible exact ih1 _ _ _ _ _ _ _ _ _ _)
      | (with_reducible exact LeO.refl _)
      | (with_reducible exact LeO.none _)
      | (with_reducible refine LeO.ite ?_ ?_)
      | (with_reducible refine LeO.bind ?_ (fun _ => ?_))
      | exact ih0 _ _ _ _ _ _ _
      | exact ih1 _ _ _ _ _ _ _ _ _ _
      | exact LeO.none _
      | refine LeO.ite ?_ ?_
      | refine LeO.bind ?_ (fun _ => ?_)
    · intro y0 y1 y2 y3 y4 y5 y6 y7 y8 y9
      unfold tree_one.l0
      repeat' first
      | (with_reducible exact ih0 _ _ _ _ _ _ _)
      | (with_reducible exact ih1 _ _ _ _ _ _ _ _ _ _)
      | (with_reducible exact LeO.refl _)
      | (with_reducible exact LeO.none _)
      | (with_reducible refine LeO.ite ?_ ?_)
      | (with_reducible refine LeO.bind ?_ (fun _ => ?_))
      | exact ih0 _ _ _ _ _ _ _
      | exact ih1 _ _ _ _ _ _ _ _ _ _
      | exact LeO.none _
      | refine LeO.ite ?_ ?_
      | refine LeO.bind ?_ (fun _ => ?_)
theorem tree_one.mono : ∀ a0 a1 a2 k, LeO (tree_one.f k a0 a1 a2) (tree_one.f (k + 1) a0 a1 a2) := by
  intro a0 a1 a2 k
  obtain ⟨ih0, ih1⟩ := tree_one.mono_l k
  unfold tree_one.f
  repeat' first
      | (with_reducible exact ih0 _ _ _ _ _ _ _)
      | (with_reducible exact ih1 _ _ _ _ _ _ _ _ _ _)
      | (with_reducible exact LeO.refl _)
      | (with_reducible exact LeO.none _)
      | (with_reducible refine LeO.ite ?_ ?_)
      | (with_reducible refine LeO.bind ?_ (fun _ => ?_))
      | exact ih0 _ _ _ _ _ _ _
      | exact ih1 _ _ _ _ _ _ _ _ _ _
      | exact LeO.none _
      | refine LeO.ite ?_ ?_
      | refine LeO.bind ?_ (fun _ => ?_)
set_option maxHeartbeats 8000000 in
set_option maxRecDepth 100000 in
theorem tree_one.calls (k : Nat) (A0_0 : Option Addr) (c0_0 : Nat) (l0_0 : List (S44)) (a1 : Int) (a2 : Int) (r : Bool) (w : World) (hr0_0 : Kd.C k44 w A0_0 l0_0.length l0_0) (hc0_0 : l0_0.length ≤ c0_0) (h : tree_one.f k l0_0 a1 a2 = some r) :
    Calls Try.prog 45 #[.agg #[.slice A0_0 l0_0.length c0_0], .int .i64 a1, .int .i64 a2] w fun e w' => e = .returned (.bool r) ∧ Below w.heap.size w w' := by
  have hu26 := Try.underlying26
  have hu44 := Try.underlying44
  have HR0_0 := Aside0.mk hr0_0
  have HC0_0 := Aside0.mk hc0_0
  clear hr0_0 hc0_0
  have HB := Aside0.mk (Below.refl w.heap.size w)
  have H : (if 0 ≤ a1 then (if a1 < (l0_0.length : Int) then (if ((rd_T44 l0_0 a1).f0) < 0 then (tree_one.j0 k a1 true l0_0 ((rd_T44 l0_0 a1).f0) ((rd_T44 l0_0 a1).f1) ((rd_T44 l0_0 a1).f2) ((rd_T44 l0_0 a1).f3)) else (if ((rd_T44 l0_0 a1).f0) > 66 then (tree_one.j0 k a1 true l0_0 ((rd_T44 l0_0 a1).f0) ((rd_T44 l0_0 a1).f1) ((rd_T44 l0_0 a1).f2) ((rd_T44 l0_0 a1).f3)) else (if ((rd_T44 l0_0 a1).f1) < 0 then (tree_one.j0 k a1 true l0_0 ((rd_T44 l0_0 a1).f0) ((rd_T44 l0_0 a1).f1) ((rd_T44 l0_0 a1).f2) ((rd_T44 l0_0 a1).f3)) else (if ((rd_T44 l0_0 a1).f1) > ((rd_T44 l0_0 a1).f2) then (tree_one.j0 k a1 true l0_0 ((rd_T44 l0_0 a1).f0) ((rd_T44 l0_0 a1).f1) ((rd_T44 l0_0 a1).f2) ((rd_T44 l0_0 a1).f3)) else (tree_one.j0 k a1 (decide (((rd_T44 l0_0 a1).f2) > a2)) l0_0 ((rd_T44 l0_0 a1).f0) ((rd_T44 l0_0 a1).f1) ((rd_T44 l0_0 a1).f2) ((rd_T44 l0_0 a1).f3)))))) else (none)) else (none)) = some r := h
  clear h
  by_cases c4 : 0 ≤ a1
  · rw [if_pos c4] at H
    have c4b0 : decide (0 ≤ a1) = true := decide_eq_true c4
    clear c4
    by_cases c5 : a1 < (l0_0.length : Int)
    · rw [if_pos c5] at H
      have c5b0 : decide (a1 < (l0_0.length : Int)) = true := decide_eq_true c5
      clear c5
      have HC6 := Aside0.mk H
      clear H
      go_enter Try.func45, Try.ntmps45
      go_upto_region 2 with (first | ((with_reducible refine gate_dst (N := 3) rfl ?_); refine box_event ?hg (N := 3) ?hd (cs := #[.slice A0_0 l0_0.length c0_0]) (t := 26) ?hr ?_; (case hd => rfl); (case hg => rfl); (case hr => first | (go_simp; done) | (go_simp; rfl)); intro gb114 hg w7 hbox hb; have n0_ := Aside0.mk (below_step (by repeat (first | (with_reducible first | exact HB.out | apply below_alloc | apply pw_below_drewN | apply below_drew1) | exact HB.out)) hb); have n1_ := Aside0.mk (hbox); have n2_ := Aside0.mk ((by rw [hg]; exact (below_size (by repeat (first | (with_reducible first | exact HB.out | apply below_alloc | apply pw_below_drewN | apply below_drew1) | exact HB.out))) : w.heap.size ≤ gb114)); have n3_ := n2_; clear HB; have HB := n0_; have BK114 := n1_; have GW114 := n2_; have GE114 := n3_; clear n0_ n1_ n2_ n3_; clear hb hbox hg; have hcz8_0 : w7.cell? ⟨gb114, 0, none⟩ = some (.slice A0_0 l0_0.length c0_0) := (blk_cell BK114.out 0).trans rfl; have hfz8_0 := blk_frozen BK114.out 0; have p115 : 0 ≤ (a1 : Int) := of_decide_eq_true (by first | (with_reducible assumption) | assumption); have q115 : a1 < (l0_0.length : Int) := of_decide_eq_true (by first | (with_reducible assumption) | assumption); obtain ⟨ad115, A115_3, c115_3, e115, hx115_0, hx115_1, hx115_2, hx115_3, hl115_3, hi115_3⟩ := at_T44 HR0_0.out a1 p115 q115; cases e115; replace hx115_0 := (HB.out.cell (World.block_lt_of_cell? w _ hx115_0)).trans hx115_0; replace hx115_1 := (HB.out.cell (World.block_lt_of_cell? w _ hx115_1)).trans hx115_1; replace hx115_2 := (HB.out.cell (World.block_lt_of_cell? w _ hx115_2)).trans hx115_2; replace hx115_3 := (HB.out.cell (World.block_lt_of_cell? w _ hx115_3)).trans hx115_3; have HR115_3 := Aside0.mk hi115_3; have HC115_3 := Aside0.mk hl115_3; clear hi115_3 hl115_3; replace p115 := eq_true p115; replace q115 := eq_true q115) | ((with_reducible refine gate_dst (N := 7) rfl ?_); refine box_event ?hg (N := 7) ?hd (cs := #[.int .i64 0, .int .i64 0, .int .i64 0, .slice none 0 0]) (t := 44) ?hr ?_; (case hd => rfl); (case hg => rfl); (case hr => first | (go_simp; done) | (go_simp; rfl)); intro gb116 hg w9 hbox hb; have n0_ := Aside0.mk (blk_below (g := gb114) (o := .cells #[.slice (some ad115) l0_0.length c0_0] 26 (0, 0)) (by (with_reducible repeat (first | refine blk_drewN ?_ _ | refine blk_drew ?_ | refine blk_alloc ?_ _)); exact BK114.out) hb); have n1_ := Aside0.mk (below_step (by repeat (first | (with_reducible first | exact HB.out | apply below_alloc | apply pw_below_drewN | apply below_drew1 | refine below_set ?_ GE114.out) | exact HB.out)) hb); have n2_ := Aside0.mk (hbox); have n3_ := Aside0.mk ((by rw [hg]; exact (below_size (by repeat (first | (with_reducible first | exact HB.out | apply below_alloc | apply pw_below_drewN | apply below_drew1 | refine below_set ?_ GE114.out) | exact HB.out))) : w.heap.size ≤ gb116)); have n4_ := n3_; have n5_ := Aside0.mk ((by rw [hg]; exact Nat.ne_of_lt (blk_lt (g := gb114) (o := .cells #[.slice (some ad115) l0_0.length c0_0] 26 (0, 0)) (by (with_reducible repeat (first | refine blk_drewN ?_ _ | refine blk_drew ?_ | refine blk_alloc ?_ _)); exact BK114.out)) : gb114 ≠ gb116)); have n6_ := Aside0.mk ((by rw [hg]; exact Nat.ne_of_gt (blk_lt (g := gb114) (o := .cells #[.slice (some ad115) l0_0.length c0_0] 26 (0, 0)) (by (with_reducible repeat (first | refine blk_drewN ?_ _ | refine blk_drew ?_ | refine blk_alloc ?_ _)); exact BK114.out)) : gb116 ≠ gb114)); clear BK114; clear HB; have BK114 := n0_; have HB := n1_; have BK116 := n2_; have GW116 := n3_; have GE116 := n4_; have NB114_116 := n5_; have NB116_114 := n6_; clear n0_ n1_ n2_ n3_ n4_ n5_ n6_; clear hb hbox hg; have hnb10 := NB116_114.out; have hnc10 := NB114_116.out; have hcz11_0 : w9.cell? ⟨gb116, 0, none⟩ = some (.int .i64 0) := (blk_cell BK116.out 0).trans rfl; have hcz11_1 : w9.cell? ⟨gb116, 1, none⟩ = some (.int .i64 0) := (blk_cell BK116.out 1).trans rfl; have hcz11_2 : w9.cell? ⟨gb116, 2, none⟩ = some (.int .i64 0) := (blk_cell BK116.out 2).trans rfl; have hcz11_3 : w9.cell? ⟨gb116, 3, none⟩ = some (.slice none 0 0) := (blk_cell BK116.out 3).trans rfl; have hfz11_0 := blk_frozen BK116.out 0; have hfz11_1 := blk_frozen BK116.out 1; have hfz11_2 := blk_frozen BK116.out 2; have hfz11_3 := blk_frozen BK116.out 3))
      (try simp only [Act.put, List.setIfInBounds_toArray, List.set_cons_zero, List.set_cons_succ])
      go_cut [41] (fun v41 wc => ∃ (kq : Nat) (x41_5 : Bool), v41 = .bool x41_5 ∧ Aside0 (tree_one.j0 kq a1 x41_5 l0_0 ((rd_T44 l0_0 a1).f0) ((rd_T44 l0_0 a1).f1) ((rd_T44 l0_0 a1).f2) ((rd_T44 l0_0 a1).f3) = some r) ∧ Aside0 (kq ≤ k) ∧ Aside0 (wc.heap[gb114]? = some (.cells #[(.slice (some ad115) l0_0.length c0_0)] 26 (0, 0))) ∧ Aside0 (wc.heap[gb116]? = some (.cells #[.int .i64 ((rd_T44 l0_0 a1).f0), .int .i64 ((rd_T44 l0_0 a1).f1), .int .i64 ((rd_T44 l0_0 a1).f2), (.slice A115_3 ((rd_T44 l0_0 a1).f3).length c115_3)] 44 (0, 0))) ∧ Aside0 (Below w.heap.size w wc))
      case first =>
        have H := HC6.out
        clear HC6
        by_cases c12 : ((rd_T44 l0_0 a1).f0) < 0
        · rw [if_pos c12] at H
          have c12b0 : decide (((rd_T44 l0_0 a1).f0) < 0) = true := decide_eq_true c12
          clear c12
          (first | rw [c12b0] | (simp only [i64_w, i32_w]; rw [c12b0]) | skip)
          have H' := Aside0.mk H
          clear H
          have hnb13 := NB116_114.out
          have hnc13 := NB114_116.out
          have hcz14_0 : w9.cell? ⟨gb116, 0, none⟩ = some (.int .i64 0) := (blk_cell BK116.out 0).trans rfl
          have hcz14_1 : w9.cell? ⟨gb116, 1, none⟩ = some (.int .i64 0) := (blk_cell BK116.out 1).trans rfl
          have hcz14_2 : w9.cell? ⟨gb116, 2, none⟩ = some (.int .i64 0) := (blk_cell BK116.out 2).trans rfl
          have hcz14_3 : w9.cell? ⟨gb116, 3, none⟩ = some (.slice none 0 0) := (blk_cell BK116.out 3).trans rfl
          have hfz14_0 := blk_frozen BK116.out 0
          have hfz14_1 := blk_frozen BK116.out 1
          have hfz14_2 := blk_frozen BK116.out 2
          have hfz14_3 := blk_frozen BK116.out 3
          go_wp2
          go_meet
          case rel => exact ⟨_, (true), (by first | rfl | (simp; done) | (simp [*]; done)), H', ⟨by first | omega | exact Nat.le_refl _⟩, ⟨by (with_reducible repeat (first | refine blk_drewN ?_ _ | refine blk_drew ?_ | refine blk_alloc ?_ _)); refine blk_far ?_ NB114_116.out _; (with_reducible repeat (first | refine blk_drewN ?_ _ | refine blk_drew ?_ | refine blk_alloc ?_ _)); refine blk_far ?_ NB114_116.out _; (with_reducible repeat (first | refine blk_drewN ?_ _ | refine blk_drew ?_ | refine blk_alloc ?_ _)); refine blk_far ?_ NB114_116.out _; (with_reducible repeat (first | refine blk_drewN ?_ _ | refine blk_drew ?_ | refine blk_alloc ?_ _)); refine blk_far ?_ NB114_116.out _; (with_reducible repeat (first | refine blk_drewN ?_ _ | refine blk_drew ?_ | refine blk_alloc ?_ _)); exact BK114.out⟩, ⟨by (with_reducible repeat (first | refine blk_drewN ?_ _ | refine blk_drew ?_ | refine blk_alloc ?_ _)); refine blk_put (cs := #[.int .i64 ((rd_T44 l0_0 a1).f0), .int .i64 ((rd_T44 l0_0 a1).f1), .int .i64 ((rd_T44 l0_0 a1).f2), .slice none 0 0]) ?_ 3 _ rfl; (with_reducible repeat (first | refine blk_drewN ?_ _ | refine blk_drew ?_ | refine blk_alloc ?_ _)); refine blk_put (cs := #[.int .i64 ((rd_T44 l0_0 a1).f0), .int .i64 ((rd_T44 l0_0 a1).f1), .int .i64 0, .slice none 0 0]) ?_ 2 _ rfl; (with_reducible repeat (first | refine blk_drewN ?_ _ | refine blk_drew ?_ | refine blk_alloc ?_ _)); refine blk_put (cs := #[.int .i64 ((rd_T44 l0_0 a1).f0), .int .i64 0, .int .i64 0, .slice none 0 0]) ?_ 1 _ rfl; (with_reducible repeat (first | refine blk_drewN ?_ _ | refine blk_drew ?_ | refine blk_alloc ?_ _)); refine blk_put (cs := #[.int .i64 0, .int .i64 0, .int .i64 0, .slice none 0 0]) ?_ 0 _ rfl; (with_reducible repeat (first | refine blk_drewN ?_ _ | refine blk_drew ?_ | refine blk_alloc ?_ _)); exact BK116.out⟩, ⟨by repeat (first | (with_reducible first | exact HB.out | apply below_alloc | apply pw_below_drewN | apply below_drew1 | refine below_set ?_ GE114.out | refine below_set ?_ GE116.out) | exact HB.out)⟩⟩
        · rw [if_neg c12] at H
          have c12b0 : decide (((rd_T44 l0_0 a1).f0) < 0) = false := decide_eq_false c12
          clear c12
          (first | rw [c12b0] | (simp only [i64_w, i32_w]; rw [c12b0]) | skip)
          by_cases c15 : ((rd_T44 l0_0 a1).f0) > 66
          · rw [if_pos c15] at H
            have c15b0 : decide (66 < ((rd_T44 l0_0 a1).f0)) = true := decide_eq_true c15
            clear c15
            have H' := Aside0.mk H
            clear H
            have hnb16 := NB116_114.out
            have hnc16 := NB114_116.out
            have hcz17_0 : w9.cell? ⟨gb116, 0, none⟩ = some (.int .i64 0) := (blk_cell BK116.out 0).trans rfl
            have hcz17_1 : w9.cell? ⟨gb116, 1, none⟩ = some (.int .i64 0) := (blk_cell BK116.out 1).trans rfl
            have hcz17_2 : w9.cell? ⟨gb116, 2, none⟩ = some (.int .i64 0) := (blk_cell BK116.out 2).trans rfl
            have hcz17_3 : w9.cell? ⟨gb116, 3, none⟩ = some (.slice none 0 0) := (blk_cell BK116.out 3).trans rfl
            have hfz17_0 := blk_frozen BK116.out 0
            have hfz17_1 := blk_frozen BK116.out 1
            have hfz17_2 := blk_frozen BK116.out 2
            have hfz17_3 := blk_frozen BK116.out 3
            go_wp2
            go_meet
            case rel => exact ⟨_, (true), (by first | rfl | (simp; done) | (simp [*]; done)), H', ⟨by first | omega | exact Nat.le_refl _⟩, ⟨by (with_reducible repeat (first | refine blk_drewN ?_ _ | refine blk_drew ?_ | refine blk_alloc ?_ _)); refine blk_far ?_ NB114_116.out _; (with_reducible repeat (first | refine blk_drewN ?_ _ | refine blk_drew ?_ | refine blk_alloc ?_ _)); refine blk_far ?_ NB114_116.out _; (with_reducible repeat (first | refine blk_drewN ?_ _ | refine blk_drew ?_ | refine blk_alloc ?_ _)); refine blk_far ?_ NB114_116.out _; (with_reducible repeat (first | refine blk_drewN ?_ _ | refine blk_drew ?_ | refine blk_alloc ?_ _)); refine blk_far ?_ NB114_116.out _; (with_reducible repeat (first | refine blk_drewN ?_ _ | refine blk_drew ?_ | refine blk_alloc ?_ _)); exact BK114.out⟩, ⟨by (with_reducible repeat (first | refine blk_drewN ?_ _ | refine blk_drew ?_ | refine blk_alloc ?_ _)); refine blk_put (cs := #[.int .i64 ((rd_T44 l0_0 a1).f0), .int .i64 ((rd_T44 l0_0 a1).f1), .int .i64 ((rd_T44 l0_0 a1).f2), .slice none 0 0]) ?_ 3 _ rfl; (with_reducible repeat (first | refine blk_drewN ?_ _ | refine blk_drew ?_ | refine blk_alloc ?_ _)); refine blk_put (cs := #[.int .i64 ((rd_T44 l0_0 a1).f0), .int .i64 ((rd_T44 l0_0 a1).f1), .int .i64 0, .slice none 0 0]) ?_ 2 _ rfl; (with_reducible repeat (first | refine blk_drewN ?_ _ | refine blk_drew ?_ | refine blk_alloc ?_ _)); refine blk_put (cs := #[.int .i64 ((rd_T44 l0_0 a1).f0), .int .i64 0, .int .i64 0, .slice none 0 0]) ?_ 1 _ rfl; (with_reducible repeat (first | refine blk_drewN ?_ _ | refine blk_drew ?_ | refine blk_alloc ?_ _)); refine blk_put (cs := #[.int .i64 0, .int .i64 0, .int .i64 0, .slice none 0 0]) ?_ 0 _ rfl; (with_reducible repeat (first | refine blk_drewN ?_ _ | refine blk_drew ?_ | refine blk_alloc ?_ _)); exact BK116.out⟩, ⟨by repeat (first | (with_reducible first | exact HB.out | apply below_alloc | apply pw_below_drewN | apply below_drew1 | refine below_set ?_ GE114.out | refine below_set ?_ GE116.out) | exact HB.out)⟩⟩
          · rw [if_neg c15] at H
            have c15b0 : decide (66 < ((rd_T44 l0_0 a1).f0)) = false := decide_eq_false c15
            clear c15
            by_cases c18 : ((rd_T44 l0_0 a1).f1) < 0
            · rw [if_pos c18] at H
              have c18b0 : decide (((rd_T44 l0_0 a1).f1) < 0) = true := decide_eq_true c18
              clear c18
              have H' := Aside0.mk H
              clear H
              have hnb19 := NB116_114.out
              have hnc19 := NB114_116.out
              have hcz20_0 : w9.cell? ⟨gb116, 0, none⟩ = some (.int .i64 0) := (blk_cell BK116.out 0).trans rfl
              have hcz20_1 : w9.cell? ⟨gb116, 1, none⟩ = some (.int .i64 0) := (blk_cell BK116.out 1).trans rfl
              have hcz20_2 : w9.cell? ⟨gb116, 2, none⟩ = some (.int .i64 0) := (blk_cell BK116.out 2).trans rfl
              have hcz20_3 : w9.cell? ⟨gb116, 3, none⟩ = some (.slice none 0 0) := (blk_cell BK116.out 3).trans rfl
              have hfz20_0 := blk_frozen BK116.out 0
              have hfz20_1 := blk_frozen BK116.out 1
              have hfz20_2 := blk_frozen BK116.out 2
              have hfz20_3 := blk_frozen BK116.out 3
              go_wp2
              go_meet
              case rel => exact ⟨_, (true), (by first | rfl | (simp; done) | (simp [*]; done)), H', ⟨by first | omega | exact Nat.le_refl _⟩, ⟨by (with_reducible repeat (first | refine blk_drewN ?_ _ | refine blk_drew ?_ | refine blk_alloc ?_ _)); refine blk_far ?_ NB114_116.out _; (with_reducible repeat (first | refine blk_drewN ?_ _ | refine blk_drew ?_ | refine blk_alloc ?_ _)); refine blk_far ?_ NB114_116.out _; (with_reducible repeat (first | refine blk_drewN ?_ _ | refine blk_drew ?_ | refine blk_alloc ?_ _)); refine blk_far ?_ NB114_116.out _; (with_reducible repeat (first | refine blk_drewN ?_ _ | refine blk_drew ?_ | refine blk_alloc ?_ _)); refine blk_far ?_ NB114_116.out _; (with_reducible repeat (first | refine blk_drewN ?_ _ | refine blk_drew ?_ | refine blk_alloc ?_ _)); exact BK114.out⟩, ⟨by (with_reducible repeat (first | refine blk_drewN ?_ _ | refine blk_drew ?_ | refine blk_alloc ?_ _)); refine blk_put (cs := #[.int .i64 ((rd_T44 l0_0 a1).f0), .int .i64 ((rd_T44 l0_0 a1).f1), .int .i64 ((rd_T44 l0_0 a1).f2), .slice none 0 0]) ?_ 3 _ rfl; (with_reducible repeat (first | refine blk_drewN ?_ _ | refine blk_drew ?_ | refine blk_alloc ?_ _)); refine blk_put (cs := #[.int .i64 ((rd_T44 l0_0 a1).f0), .int .i64 ((rd_T44 l0_0 a1).f1), .int .i64 0, .slice none 0 0]) ?_ 2 _ rfl; (with_reducible repeat (first | refine blk_drewN ?_ _ | refine blk_drew ?_ | refine blk_alloc ?_ _)); refine blk_put (cs := #[.int .i64 ((rd_T44 l0_0 a1).f0), .int .i64 0, .int .i64 0, .slice none 0 0]) ?_ 1 _ rfl; (with_reducible repeat (first | refine blk_drewN ?_ _ | refine blk_drew ?_ | refine blk_alloc ?_ _)); refine blk_put (cs := #[.int .i64 0, .int .i64 0, .int .i64 0, .slice none 0 0]) ?_ 0 _ rfl; (with_reducible repeat (first | refine blk_drewN ?_ _ | refine blk_drew ?_ | refine blk_alloc ?_ _)); exact BK116.out⟩, ⟨by repeat (first | (with_reducible first | exact HB.out | apply below_alloc | apply pw_below_drewN | apply below_drew1 | refine below_set ?_ GE114.out | refine below_set ?_ GE116.out) | exact HB.out)⟩⟩
            · rw [if_neg c18] at H
              have c18b0 : decide (((rd_T44 l0_0 a1).f1) < 0) = false := decide_eq_false c18
              clear c18
              by_cases c21 : ((rd_T44 l0_0 a1).f1) > ((rd_T44 l0_0 a1).f2)
              · rw [if_pos c21] at H
                have c21b0 : decide (((rd_T44 l0_0 a1).f2) < ((rd_T44 l0_0 a1).f1)) = true := decide_eq_true c21
                clear c21
                have H' := Aside0.mk H
                clear H
                have hnb22 := NB116_114.out
                have hnc22 := NB114_116.out
                have hcz23_0 : w9.cell? ⟨gb116, 0, none⟩ = some (.int .i64 0) := (blk_cell BK116.out 0).trans rfl
                have hcz23_1 : w9.cell? ⟨gb116, 1, none⟩ = some (.int .i64 0) := (blk_cell BK116.out 1).trans rfl
                have hcz23_2 : w9.cell? ⟨gb116, 2, none⟩ = some (.int .i64 0) := (blk_cell BK116.out 2).trans rfl
                have hcz23_3 : w9.cell? ⟨gb116, 3, none⟩ = some (.slice none 0 0) := (blk_cell BK116.out 3).trans rfl
                have hfz23_0 := blk_frozen BK116.out 0
                have hfz23_1 := blk_frozen BK116.out 1
                have hfz23_2 := blk_frozen BK116.out 2
                have hfz23_3 := blk_frozen BK116.out 3
                go_wp2
                go_meet
                case rel => exact ⟨_, (true), (by first | rfl | (simp; done) | (simp [*]; done)), H', ⟨by first | omega | exact Nat.le_refl _⟩, ⟨by (with_reducible repeat (first | refine blk_drewN ?_ _ | refine blk_drew ?_ | refine blk_alloc ?_ _)); refine blk_far ?_ NB114_116.out _; (with_reducible repeat (first | refine blk_drewN ?_ _ | refine blk_drew ?_ | refine blk_alloc ?_ _)); refine blk_far ?_ NB114_116.out _; (with_reducible repeat (first | refine blk_drewN ?_ _ | refine blk_drew ?_ | refine blk_alloc ?_ _)); refine blk_far ?_ NB114_116.out _; (with_reducible repeat (first | refine blk_drewN ?_ _ | refine blk_drew ?_ | refine blk_alloc ?_ _)); refine blk_far ?_ NB114_116.out _; (with_reducible repeat (first | refine blk_drewN ?_ _ | refine blk_drew ?_ | refine blk_alloc ?_ _)); exact BK114.out⟩, ⟨by (with_reducible repeat (first | refine blk_drewN ?_ _ | refine blk_drew ?_ | refine blk_alloc ?_ _)); refine blk_put (cs := #[.int .i64 ((rd_T44 l0_0 a1).f0), .int .i64 ((rd_T44 l0_0 a1).f1), .int .i64 ((rd_T44 l0_0 a1).f2), .slice none 0 0]) ?_ 3 _ rfl; (with_reducible repeat (first | refine blk_drewN ?_ _ | refine blk_drew ?_ | refine blk_alloc ?_ _)); refine blk_put (cs := #[.int .i64 ((rd_T44 l0_0 a1).f0), .int .i64 ((rd_T44 l0_0 a1).f1), .int .i64 0, .slice none 0 0]) ?_ 2 _ rfl; (with_reducible repeat (first | refine blk_drewN ?_ _ | refine blk_drew ?_ | refine blk_alloc ?_ _)); refine blk_put (cs := #[.int .i64 ((rd_T44 l0_0 a1).f0), .int .i64 0, .int .i64 0, .slice none 0 0]) ?_ 1 _ rfl; (with_reducible repeat (first | refine blk_drewN ?_ _ | refine blk_drew ?_ | refine blk_alloc ?_ _)); refine blk_put (cs := #[.int .i64 0, .int .i64 0, .int .i64 0, .slice none 0 0]) ?_ 0 _ rfl; (with_reducible repeat (first | refine blk_drewN ?_ _ | refine blk_drew ?_ | refine blk_alloc ?_ _)); exact BK116.out⟩, ⟨by repeat (first | (with_reducible first | exact HB.out | apply below_alloc | apply pw_below_drewN | apply below_drew1 | refine below_set ?_ GE114.out | refine below_set ?_ GE116.out) | exact HB.out)⟩⟩
              · rw [if_neg c21] at H
                have c21b0 : decide (((rd_T44 l0_0 a1).f2) < ((rd_T44 l0_0 a1).f1)) = false := decide_eq_false c21
                clear c21
                have H' := Aside0.mk H
                clear H
                have hnb24 := NB116_114.out
                have hnc24 := NB114_116.out
                have hcz25_0 : w9.cell? ⟨gb116, 0, none⟩ = some (.int .i64 0) := (blk_cell BK116.out 0).trans rfl
                have hcz25_1 : w9.cell? ⟨gb116, 1, none⟩ = some (.int .i64 0) := (blk_cell BK116.out 1).trans rfl
                have hcz25_2 : w9.cell? ⟨gb116, 2, none⟩ = some (.int .i64 0) := (blk_cell BK116.out 2).trans rfl
                have hcz25_3 : w9.cell? ⟨gb116, 3, none⟩ = some (.slice none 0 0) := (blk_cell BK116.out 3).trans rfl
                have hfz25_0 := blk_frozen BK116.out 0
                have hfz25_1 := blk_frozen BK116.out 1
                have hfz25_2 := blk_frozen BK116.out 2
                have hfz25_3 := blk_frozen BK116.out 3
                go_wp2
                go_meet
                case rel => exact ⟨_, (decide (((rd_T44 l0_0 a1).f2) > a2)), (by first | rfl | (simp; done) | (simp [*]; done)), H', ⟨by first | omega | exact Nat.le_refl _⟩, ⟨by (with_reducible repeat (first | refine blk_drewN ?_ _ | refine blk_drew ?_ | refine blk_alloc ?_ _)); refine blk_far ?_ NB114_116.out _; (with_reducible repeat (first | refine blk_drewN ?_ _ | refine blk_drew ?_ | refine blk_alloc ?_ _)); refine blk_far ?_ NB114_116.out _; (with_reducible repeat (first | refine blk_drewN ?_ _ | refine blk_drew ?_ | refine blk_alloc ?_ _)); refine blk_far ?_ NB114_116.out _; (with_reducible repeat (first | refine blk_drewN ?_ _ | refine blk_drew ?_ | refine blk_alloc ?_ _)); refine blk_far ?_ NB114_116.out _; (with_reducible repeat (first | refine blk_drewN ?_ _ | refine blk_drew ?_ | refine blk_alloc ?_ _)); exact BK114.out⟩, ⟨by (with_reducible repeat (first | refine blk_drewN ?_ _ | refine blk_drew ?_ | refine blk_alloc ?_ _)); refine blk_put (cs := #[.int .i64 ((rd_T44 l0_0 a1).f0), .int .i64 ((rd_T44 l0_0 a1).f1), .int .i64 ((rd_T44 l0_0 a1).f2), .slice none 0 0]) ?_ 3 _ rfl; (with_reducible repeat (first | refine blk_drewN ?_ _ | refine blk_drew ?_ | refine blk_alloc ?_ _)); refine blk_put (cs := #[.int .i64 ((rd_T44 l0_0 a1).f0), .int .i64 ((rd_T44 l0_0 a1).f1), .int .i64 0, .slice none 0 0]) ?_ 2 _ rfl; (with_reducible repeat (first | refine blk_drewN ?_ _ | refine blk_drew ?_ | refine blk_alloc ?_ _)); refine blk_put (cs := #[.int .i64 ((rd_T44 l0_0 a1).f0), .int .i64 0, .int .i64 0, .slice none 0 0]) ?_ 1 _ rfl; (with_reducible repeat (first | refine blk_drewN ?_ _ | refine blk_drew ?_ | refine blk_alloc ?_ _)); refine blk_put (cs := #[.int .i64 0, .int .i64 0, .int .i64 0, .slice none 0 0]) ?_ 0 _ rfl; (with_reducible repeat (first | refine blk_drewN ?_ _ | refine blk_drew ?_ | refine blk_alloc ?_ _)); exact BK116.out⟩, ⟨by repeat (first | (with_reducible first | exact HB.out | apply below_alloc | apply pw_below_drewN | apply below_drew1 | refine below_set ?_ GE114.out | refine below_set ?_ GE116.out) | exact HB.out)⟩⟩
      case rest =>
        clear HC6
        try clear c1
        try clear p1
        try clear q1
        try clear hx1
        try clear c2
        try clear p2
        try clear c4
        try clear c4b0
        try clear c5
        try clear c5b0
        try clear c10
        try clear c11
        try clear p11
        try clear q11
        try clear hx11
        try clear c12
        try clear c12b0
        try clear c13
        try clear c15
        try clear c15b0
        try clear c16
        try clear c18
        try clear c18b0
        try clear c19
        try clear c21
        try clear c21b0
        try clear c22
        try clear c24
        try clear hcz11_0
        try clear hcz11_1
        try clear hcz11_2
        try clear hcz11_3
        try clear hcz14_0
        try clear hcz14_1
        try clear hcz14_2
        try clear hcz14_3
        try clear hcz17_0
        try clear hcz17_1
        try clear hcz17_2
        try clear hcz17_3
        try clear hcz20_0
        try clear hcz20_1
        try clear hcz20_2
        try clear hcz20_3
        try clear hcz23_0
        try clear hcz23_1
        try clear hcz23_2
        try clear hcz23_3
        try clear hcz25_0
        try clear hcz25_1
        try clear hcz25_2
        try clear hcz25_3
        try clear hcz8_0
        try clear hfz11_0
        try clear hfz11_1
        try clear hfz11_2
        try clear hfz11_3
        try clear hfz14_0
        try clear hfz14_1
        try clear hfz14_2
        try clear hfz14_3
        try clear hfz17_0
        try clear hfz17_1
        try clear hfz17_2
        try clear hfz17_3
        try clear hfz20_0
        try clear hfz20_1
        try clear hfz20_2
        try clear hfz20_3
        try clear hfz23_0
        try clear hfz23_1
        try clear hfz23_2
        try clear hfz23_3
        try clear hfz25_0
        try clear hfz25_1
        try clear hfz25_2
        try clear hfz25_3
        try clear hfz8_0
        try clear hx115_0
        try clear hx115_1
        try clear hx115_2
        try clear hx115_3
        try clear p115
        try clear q115
        obtain ⟨kq, x41_5, rfl, HA, HJ5, BK114, BK116, HB⟩ := hcut
        cases kq with
        | zero => exact absurd HA.out (by simp [tree_one.j0])
        | succ kj5 =>
          have H := HA.out
          clear HA
          simp only [tree_one.j0] at H
          by_cases c26 : x41_5 = true
          · subst c26
            have H1 : (some false) = some r := by rw [if_pos rfl] at H; exact H
            clear H
            have H := H1
            clear H1
            obtain rfl := Option.some.inj H
            go_wp2
            go_ret
            exact ⟨by first | rfl | (simp [errW_none, errW_some, erT_no, erV_no, erT_at, erV_at] <;> rfl) | (simp [*, errW_none, errW_some, erT_no, erV_no, erT_at, erV_at] <;> rfl), by repeat (first | (with_reducible first | exact HB.out | apply below_alloc | apply pw_below_drewN | apply below_drew1 | refine below_set ?_ GE114.out | refine below_set ?_ GE116.out) | exact HB.out)⟩
          · replace c26 := Bool.eq_false_iff.mpr c26
            subst c26
            have H1 : (tree_one.l0 kj5 a1 ((rd_T44 l0_0 a1).f1) ((rd_T44 l0_0 a1).f3) (((rd_T44 l0_0 a1).f3).length : Int) 0 l0_0 ((rd_T44 l0_0 a1).f0) ((rd_T44 l0_0 a1).f1) ((rd_T44 l0_0 a1).f2) ((rd_T44 l0_0 a1).f3)) = some r := by rw [if_neg (show ¬ (false = true) by decide)] at H; exact H
            clear H
            have H := H1
            clear H1
            have H' := Aside0.mk H
            clear H
            have hnb27 := NB116_114.out
            have hnc27 := NB114_116.out
            have hcz28_0 : wc.cell? ⟨gb116, 0, none⟩ = some (.int .i64 ((rd_T44 l0_0 a1).f0)) := (blk_cell BK116.out 0).trans rfl
            have hcz28_1 : wc.cell? ⟨gb116, 1, none⟩ = some (.int .i64 ((rd_T44 l0_0 a1).f1)) := (blk_cell BK116.out 1).trans rfl
            have hcz28_2 : wc.cell? ⟨gb116, 2, none⟩ = some (.int .i64 ((rd_T44 l0_0 a1).f2)) := (blk_cell BK116.out 2).trans rfl
            have hcz28_3 : wc.cell? ⟨gb116, 3, none⟩ = some (.slice A115_3 ((rd_T44 l0_0 a1).f3).length c115_3) := (blk_cell BK116.out 3).trans rfl
            have hfz28_0 := blk_frozen BK116.out 0
            have hfz28_1 := blk_frozen BK116.out 1
            have hfz28_2 := blk_frozen BK116.out 2
            have hfz28_3 := blk_frozen BK116.out 3
            go_wp2
            go_loopg [8, 47] kj5 (fun kq v8 v47 w' => ∃ (x8_2 : Int) (x47_2 : Int), v8 = .int .i64 x8_2 ∧ v47 = .int .i64 x47_2 ∧ Aside0 (tree_one.l0 kq a1 x8_2 ((rd_T44 l0_0 a1).f3) (((rd_T44 l0_0 a1).f3).length : Int) x47_2 l0_0 ((rd_T44 l0_0 a1).f0) ((rd_T44 l0_0 a1).f1) ((rd_T44 l0_0 a1).f2) ((rd_T44 l0_0 a1).f3) = some r) ∧ Aside0 (kq ≤ kj5) ∧ Aside0 (w'.heap[gb114]? = some (.cells #[(.slice (some ad115) l0_0.length c0_0)] 26 (0, 0))) ∧ Aside0 (w'.heap[gb116]? = some (.cells #[.int .i64 ((rd_T44 l0_0 a1).f0), .int .i64 ((rd_T44 l0_0 a1).f1), .int .i64 ((rd_T44 l0_0 a1).f2), (.slice A115_3 ((rd_T44 l0_0 a1).f3).length c115_3)] 44 (0, 0))) ∧ Aside0 (Below w.heap.size w w'))
            case atStart => exact ⟨(((rd_T44 l0_0 a1).f1)), (0), (by first | rfl | (simp; done) | (simp [*]; done)), (by first | rfl | (simp; done) | (simp [*]; done)), H', ⟨Nat.le_refl _⟩, ⟨by (with_reducible repeat (first | refine blk_drewN ?_ _ | refine blk_drew ?_ | refine blk_alloc ?_ _)); exact BK114.out⟩, ⟨by (with_reducible repeat (first | refine blk_drewN ?_ _ | refine blk_drew ?_ | refine blk_alloc ?_ _)); exact BK116.out⟩, ⟨by repeat (first | (with_reducible first | exact HB.out | apply below_alloc | apply pw_below_drewN | apply below_drew1 | refine below_set ?_ GE114.out | refine below_set ?_ GE116.out) | exact HB.out)⟩⟩
            case round =>
              clear H'
              try clear c1
              try clear p1
              try clear q1
              try clear hx1
              try clear c2
              try clear p2
              try clear c4
              try clear c4b0
              try clear c5
              try clear c5b0
              try clear c10
              try clear c11
              try clear p11
              try clear q11
              try clear hx11
              try clear c12
              try clear c12b0
              try clear c13
              try clear c15
              try clear c15b0
              try clear c16
              try clear c18
              try clear c18b0
              try clear c19
              try clear c21
              try clear c21b0
              try clear c22
              try clear c24
              try clear c26
              try clear c27
              try clear hcz11_0
              try clear hcz11_1
              try clear hcz11_2
              try clear hcz11_3
              try clear hcz14_0
              try clear hcz14_1
              try clear hcz14_2
              try clear hcz14_3
              try clear hcz17_0
              try clear hcz17_1
              try clear hcz17_2
              try clear hcz17_3
              try clear hcz20_0
              try clear hcz20_1
              try clear hcz20_2
              try clear hcz20_3
              try clear hcz23_0
              try clear hcz23_1
              try clear hcz23_2
              try clear hcz23_3
              try clear hcz25_0
              try clear hcz25_1
              try clear hcz25_2
              try clear hcz25_3
              try clear hcz28_0
              try clear hcz28_1
              try clear hcz28_2
              try clear hcz28_3
              try clear hcz8_0
              try clear hfz11_0
              try clear hfz11_1
              try clear hfz11_2
              try clear hfz11_3
              try clear hfz14_0
              try clear hfz14_1
              try clear hfz14_2
              try clear hfz14_3
              try clear hfz17_0
              try clear hfz17_1
              try clear hfz17_2
              try clear hfz17_3
              try clear hfz20_0
              try clear hfz20_1
              try clear hfz20_2
              try clear hfz20_3
              try clear hfz23_0
              try clear hfz23_1
              try clear hfz23_2
              try clear hfz23_3
              try clear hfz25_0
              try clear hfz25_1
              try clear hfz25_2
              try clear hfz25_3
              try clear hfz28_0
              try clear hfz28_1
              try clear hfz28_2
              try clear hfz28_3
              try clear hfz8_0
              try clear hx115_0
              try clear hx115_1
              try clear hx115_2
              try clear hx115_3
              try clear p1
              try clear p11
              try clear p115
              try clear p2
              try clear q1
              try clear q11
              try clear q115
              obtain ⟨x8_2, x47_2, rfl, rfl, HA, HK2, BK114, BK116, HB⟩ := hrel
              cases gk with
              | zero => exact absurd HA.out (by simp [tree_one.l0])
              | succ k2 =>
                have H := HA.out
                clear HA
                simp only [tree_one.l0] at H
                by_cases c29 : x47_2 < (((rd_T44 l0_0 a1).f3).length : Int)
                · rw [if_pos c29] at H
                  have c29b0 : decide (x47_2 < (((rd_T44 l0_0 a1).f3).length : Int)) = true := decide_eq_true c29
                  clear c29
                  by_cases c30 : 0 ≤ x47_2
                  · rw [if_pos c30] at H
                    have c30b0 : decide (0 ≤ x47_2) = true := decide_eq_true c30
                    clear c30
                    by_cases c31 : x47_2 < (((rd_T44 l0_0 a1).f3).length : Int)
                    · rw [if_pos c31] at H
                      have c31b0 : decide (x47_2 < (((rd_T44 l0_0 a1).f3).length : Int)) = true := decide_eq_true c31
                      clear c31
                      by_cases c32 : (rd ((rd_T44 l0_0 a1).f3) x47_2) < 0
                      · rw [if_pos c32] at H
                        have c32b0 : decide ((rd ((rd_T44 l0_0 a1).f3) x47_2) < 0) = true := decide_eq_true c32
                        clear c32
                        obtain rfl := Option.some.inj H
                        have p117 : 0 ≤ (x47_2 : Int) := of_decide_eq_true (by first | (with_reducible assumption) | assumption)
                        have q117 : x47_2 < (((rd_T44 l0_0 a1).f3).length : Int) := of_decide_eq_true (by first | (with_reducible assumption) | assumption)
                        obtain ⟨ad117, e117, hx117_0⟩ := Kd.at_int HR115_3.out x47_2 p117 q117
                        cases e117
                        replace hx117_0 := (HB.out.cell (World.block_lt_of_cell? w _ hx117_0)).trans hx117_0
                        replace p117 := eq_true p117
                        replace q117 := eq_true q117
                        go_wp2
                        go_ret
                        exact ⟨by first | rfl | (simp [errW_none, errW_some, erT_no, erV_no, erT_at, erV_at] <;> rfl) | (simp [*, errW_none, errW_some, erT_no, erV_no, erT_at, erV_at] <;> rfl), by repeat (first | (with_reducible first | exact HB.out | apply below_alloc | apply pw_below_drewN | apply below_drew1 | refine below_set ?_ GE114.out | refine below_set ?_ GE116.out) | exact HB.out)⟩
                      · rw [if_neg c32] at H
                        have c32b0 : decide ((rd ((rd_T44 l0_0 a1).f3) x47_2) < 0) = false := decide_eq_false c32
                        clear c32
                        by_cases c33 : (rd ((rd_T44 l0_0 a1).f3) x47_2) ≥ a1
                        · rw [if_pos c33] at H
                          have c33b0 : decide (a1 ≤ (rd ((rd_T44 l0_0 a1).f3) x47_2)) = true := decide_eq_true c33
                          clear c33
                          obtain rfl := Option.some.inj H
                          have p117 : 0 ≤ (x47_2 : Int) := of_decide_eq_true (by first | (with_reducible assumption) | assumption)
                          have q117 : x47_2 < (((rd_T44 l0_0 a1).f3).length : Int) := of_decide_eq_true (by first | (with_reducible assumption) | assumption)
                          obtain ⟨ad117, e117, hx117_0⟩ := Kd.at_int HR115_3.out x47_2 p117 q117
                          cases e117
                          replace hx117_0 := (HB.out.cell (World.block_lt_of_cell? w _ hx117_0)).trans hx117_0
                          replace p117 := eq_true p117
                          replace q117 := eq_true q117
                          go_wp2
                          go_ret
                          exact ⟨by first | rfl | (simp [errW_none, errW_some, erT_no, erV_no, erT_at, erV_at] <;> rfl) | (simp [*, errW_none, errW_some, erT_no, erV_no, erT_at, erV_at] <;> rfl), by repeat (first | (with_reducible first | exact HB.out | apply below_alloc | apply pw_below_drewN | apply below_drew1 | refine below_set ?_ GE114.out | refine below_set ?_ GE116.out) | exact HB.out)⟩
                        · rw [if_neg c33] at H
                          have c33b0 : decide (a1 ≤ (rd ((rd_T44 l0_0 a1).f3) x47_2)) = false := decide_eq_false c33
                          clear c33
                          by_cases c34 : 0 ≤ (rd ((rd_T44 l0_0 a1).f3) x47_2)
                          · rw [if_pos c34] at H
                            have c34b0 : decide (0 ≤ (rd ((rd_T44 l0_0 a1).f3) x47_2)) = true := decide_eq_true c34
                            clear c34
                            by_cases c35 : (rd ((rd_T44 l0_0 a1).f3) x47_2) < (l0_0.length : Int)
                            · rw [if_pos c35] at H
                              have c35b0 : decide ((rd ((rd_T44 l0_0 a1).f3) x47_2) < (l0_0.length : Int)) = true := decide_eq_true c35
                              clear c35
                              by_cases c36 : ((rd_T44 l0_0 (rd ((rd_T44 l0_0 a1).f3) x47_2)).f1) < x8_2
                              · rw [if_pos c36] at H
                                have c36b0 : decide (((rd_T44 l0_0 (rd ((rd_T44 l0_0 a1).f3) x47_2)).f1) < x8_2) = true := decide_eq_true c36
                                clear c36
                                obtain rfl := Option.some.inj H
                                have p117 : 0 ≤ (x47_2 : Int) := of_decide_eq_true (by first | (with_reducible assumption) | assumption)
                                have q117 : x47_2 < (((rd_T44 l0_0 a1).f3).length : Int) := of_decide_eq_true (by first | (with_reducible assumption) | assumption)
                                obtain ⟨ad117, e117, hx117_0⟩ := Kd.at_int HR115_3.out x47_2 p117 q117
                                cases e117
                                replace hx117_0 := (HB.out.cell (World.block_lt_of_cell? w _ hx117_0)).trans hx117_0
                                replace p117 := eq_true p117
                                replace q117 := eq_true q117
                                have hnb37 := NB114_116.out
                                have hnc37 := NB116_114.out
                                have hcz38_0 : wr.cell? ⟨gb114, 0, none⟩ = some (.slice (some ad115) l0_0.length c0_0) := (blk_cell BK114.out 0).trans rfl
                                have hfz38_0 := blk_frozen BK114.out 0
                                have p118 : 0 ≤ ((rd ((rd_T44 l0_0 a1).f3) x47_2) : Int) := of_decide_eq_true (by first | (with_reducible assumption) | assumption)
                                have q118 : (rd ((rd_T44 l0_0 a1).f3) x47_2) < (l0_0.length : Int) := of_decide_eq_true (by first | (with_reducible assumption) | assumption)
                                obtain ⟨ad118, A118_3, c118_3, e118, hx118_0, hx118_1, hx118_2, hx118_3, hl118_3, hi118_3⟩ := at_T44 HR0_0.out (rd ((rd_T44 l0_0 a1).f3) x47_2) p118 q118
                                obtain rfl : ad115 = ad118 := (by injection e118)
                                replace hx118_0 := (HB.out.cell (World.block_lt_of_cell? w _ hx118_0)).trans hx118_0
                                replace hx118_1 := (HB.out.cell (World.block_lt_of_cell? w _ hx118_1)).trans hx118_1
                                replace hx118_2 := (HB.out.cell (World.block_lt_of_cell? w _ hx118_2)).trans hx118_2
                                replace hx118_3 := (HB.out.cell (World.block_lt_of_cell? w _ hx118_3)).trans hx118_3
                                have HR118_3 := Aside0.mk hi118_3
                                have HC118_3 := Aside0.mk hl118_3
                                clear hi118_3 hl118_3
                                replace p118 := eq_true p118
                                replace q118 := eq_true q118
                                go_wp2
                                go_ret
                                exact ⟨by first | rfl | (simp [errW_none, errW_some, erT_no, erV_no, erT_at, erV_at] <;> rfl) | (simp [*, errW_none, errW_some, erT_no, erV_no, erT_at, erV_at] <;> rfl), by repeat (first | (with_reducible first | exact HB.out | apply below_alloc | apply pw_below_drewN | apply below_drew1 | refine below_set ?_ GE114.out | refine below_set ?_ GE116.out) | exact HB.out)⟩
                              · rw [if_neg c36] at H
                                have c36b0 : decide (((rd_T44 l0_0 (rd ((rd_T44 l0_0 a1).f3) x47_2)).f1) < x8_2) = false := decide_eq_false c36
                                clear c36
                                have H' := Aside0.mk H
                                clear H
                                have p117 : 0 ≤ (x47_2 : Int) := of_decide_eq_true (by first | (with_reducible assumption) | assumption)
                                have q117 : x47_2 < (((rd_T44 l0_0 a1).f3).length : Int) := of_decide_eq_true (by first | (with_reducible assumption) | assumption)
                                obtain ⟨ad117, e117, hx117_0⟩ := Kd.at_int HR115_3.out x47_2 p117 q117
                                cases e117
                                replace hx117_0 := (HB.out.cell (World.block_lt_of_cell? w _ hx117_0)).trans hx117_0
                                replace p117 := eq_true p117
                                replace q117 := eq_true q117
                                have hnb39 := NB114_116.out
                                have hnc39 := NB116_114.out
                                have hcz40_0 : wr.cell? ⟨gb114, 0, none⟩ = some (.slice (some ad115) l0_0.length c0_0) := (blk_cell BK114.out 0).trans rfl
                                have hfz40_0 := blk_frozen BK114.out 0
                                have p118 : 0 ≤ ((rd ((rd_T44 l0_0 a1).f3) x47_2) : Int) := of_decide_eq_true (by first | (with_reducible assumption) | assumption)
                                have q118 : (rd ((rd_T44 l0_0 a1).f3) x47_2) < (l0_0.length : Int) := of_decide_eq_true (by first | (with_reducible assumption) | assumption)
                                obtain ⟨ad118, A118_3, c118_3, e118, hx118_0, hx118_1, hx118_2, hx118_3, hl118_3, hi118_3⟩ := at_T44 HR0_0.out (rd ((rd_T44 l0_0 a1).f3) x47_2) p118 q118
                                obtain rfl : ad115 = ad118 := (by injection e118)
                                replace hx118_0 := (HB.out.cell (World.block_lt_of_cell? w _ hx118_0)).trans hx118_0
                                replace hx118_1 := (HB.out.cell (World.block_lt_of_cell? w _ hx118_1)).trans hx118_1
                                replace hx118_2 := (HB.out.cell (World.block_lt_of_cell? w _ hx118_2)).trans hx118_2
                                replace hx118_3 := (HB.out.cell (World.block_lt_of_cell? w _ hx118_3)).trans hx118_3
                                have HR118_3 := Aside0.mk hi118_3
                                have HC118_3 := Aside0.mk hl118_3
                                clear hi118_3 hl118_3
                                replace p118 := eq_true p118
                                replace q118 := eq_true q118
                                have p119 : 0 ≤ ((rd ((rd_T44 l0_0 a1).f3) x47_2) : Int) := of_decide_eq_true (by first | (with_reducible assumption) | assumption)
                                have q119 : (rd ((rd_T44 l0_0 a1).f3) x47_2) < (l0_0.length : Int) := of_decide_eq_true (by first | (with_reducible assumption) | assumption)
                                obtain ⟨ad119, A119_3, c119_3, e119, hx119_0, hx119_1, hx119_2, hx119_3, hl119_3, hi119_3⟩ := at_T44 HR0_0.out (rd ((rd_T44 l0_0 a1).f3) x47_2) p119 q119
                                obtain rfl : ad115 = ad119 := (by injection e119)
                                replace hx119_0 := (HB.out.cell (World.block_lt_of_cell? w _ hx119_0)).trans hx119_0
                                replace hx119_1 := (HB.out.cell (World.block_lt_of_cell? w _ hx119_1)).trans hx119_1
                                replace hx119_2 := (HB.out.cell (World.block_lt_of_cell? w _ hx119_2)).trans hx119_2
                                replace hx119_3 := (HB.out.cell (World.block_lt_of_cell? w _ hx119_3)).trans hx119_3
                                have HR119_3 := Aside0.mk hi119_3
                                have HC119_3 := Aside0.mk hl119_3
                                clear hi119_3 hl119_3
                                replace p119 := eq_true p119
                                replace q119 := eq_true q119
                                have ea_ := Option.some.inj (hx118_3.symm.trans hx119_3)
                                injection ea_ with ea_ en_ ec_
                                subst ea_
                                subst ec_
                                clear en_
                                go_wp2
                                go_roundg k2
                                case measure => have := HJ5.out; have := HK2.out; omega
                                case rel => exact ⟨((rd_T44 l0_0 (rd ((rd_T44 l0_0 a1).f3) x47_2)).f2), (wrap64 (x47_2 + 1)), (by first | rfl | (simp; done) | (simp [*]; done)), (by first | rfl | (simp; done) | (simp [*]; done)), H', ⟨by have := HJ5.out; have := HK2.out; omega⟩, ⟨by (with_reducible repeat (first | refine blk_drewN ?_ _ | refine blk_drew ?_ | refine blk_alloc ?_ _)); exact BK114.out⟩, ⟨by (with_reducible repeat (first | refine blk_drewN ?_ _ | refine blk_drew ?_ | refine blk_alloc ?_ _)); exact BK116.out⟩, ⟨by repeat (first | (with_reducible first | exact HB.out | apply below_alloc | apply pw_below_drewN | apply below_drew1 | refine below_set ?_ GE114.out | refine below_set ?_ GE116.out) | exact HB.out)⟩⟩
                            · rw [if_neg c35] at H
                              exact absurd H (by simp)
                          · rw [if_neg c34] at H
                            exact absurd H (by simp)
                    · rw [if_neg c31] at H
                      exact absurd H (by simp)
                  · rw [if_neg c30] at H
                    exact absurd H (by simp)
                · rw [if_neg c29] at H
                  have c29b0 : decide (x47_2 < (((rd_T44 l0_0 a1).f3).length : Int)) = false := decide_eq_false c29
                  clear c29
                  obtain rfl := Option.some.inj H
                  have hnb41 := NB116_114.out
                  have hnc41 := NB114_116.out
                  have hcz42_0 : wr.cell? ⟨gb116, 0, none⟩ = some (.int .i64 ((rd_T44 l0_0 a1).f0)) := (blk_cell BK116.out 0).trans rfl
                  have hcz42_1 : wr.cell? ⟨gb116, 1, none⟩ = some (.int .i64 ((rd_T44 l0_0 a1).f1)) := (blk_cell BK116.out 1).trans rfl
                  have hcz42_2 : wr.cell? ⟨gb116, 2, none⟩ = some (.int .i64 ((rd_T44 l0_0 a1).f2)) := (blk_cell BK116.out 2).trans rfl
                  have hcz42_3 : wr.cell? ⟨gb116, 3, none⟩ = some (.slice A115_3 ((rd_T44 l0_0 a1).f3).length c115_3) := (blk_cell BK116.out 3).trans rfl
                  have hfz42_0 := blk_frozen BK116.out 0
                  have hfz42_1 := blk_frozen BK116.out 1
                  have hfz42_2 := blk_frozen BK116.out 2
                  have hfz42_3 := blk_frozen BK116.out 3
                  go_wp2
                  go_ret
                  exact ⟨by first | rfl | (simp [errW_none, errW_some, erT_no, erV_no, erT_at, erV_at] <;> rfl) | (simp [*, errW_none, errW_some, erT_no, erV_no, erT_at, erV_at] <;> rfl), by repeat (first | (with_reducible first | exact HB.out | apply below_alloc | apply pw_below_drewN | apply below_drew1 | refine below_set ?_ GE114.out | refine below_set ?_ GE116.out) | exact HB.out)⟩
    · rw [if_neg c5] at H
      exact absurd H (by simp)
  · rw [if_neg c4] at H
    exact absurd H (by simp)

end Go.Proofs.Ytnpgadfoohjlnaa.QV
