/- Where a Lean function of this text answers, the Go function of its name comes to that answer: no other condition. Written by a program of this session out of the translation; Lean checks it. -/
import Derived.Test.YtnpgadfoohjlnaaQA0
import Derived.Test.YtnpgadfoohjlnaaQA7
import Derived.Test.YtnpgadfoohjlnaaQA8
namespace Go.Proofs.Ytnpgadfoohjlnaa.QA
open Go.RowKit Go.Proofs.YtnpgadfoohjlnaaW.PrintWords Go.Proofs.YtnpgadfoohjlnaaW.PrintLast Go.Proofs.YtnpgadfoohjlnaaW.PrintMore Go.Proofs.YtnpgadfoohjlnaaW.PrintX
attribute [local go_sem] max2_int min2_int max_two min_two max_three min_three max_four min_four   -- for this text's walks alone
set_option linter.unusedVariables false
set_option linter.unusedSimpArgs false

/-! ### edit_Back: function 25 -/
mutual
def edit_Back.l0 : Nat → Int → Int → Int → List (S64) → Int → Int → Option (Int × Bool)
  | 0, _, _, _, _, _, _ => none
  | k + 1, x1, x6, x7, x12, x13, x14 => if x14 < x13 then (if 0 ≤ x14 then (if x14 < (x12.length : Int) then (if (wrap64 (((rd_T64 x12 x14).f0) + x7)) ≤ x1 then (edit_Back.j1 k x1 x6 x7 (wrap64 ((wrap64 (((rd_T64 x12 x14).f0) + x7)) + (((rd_T64 x12 x14).f2).size : Int))) x12 x13 x14 (decide (x1 < (wrap64 ((wrap64 (((rd_T64 x12 x14).f0) + x7)) + (((rd_T64 x12 x14).f2).size : Int))))) ((rd_T64 x12 x14).f0) ((rd_T64 x12 x14).f1) ((rd_T64 x12 x14).f2)) else (edit_Back.j1 k x1 x6 x7 (wrap64 ((wrap64 (((rd_T64 x12 x14).f0) + x7)) + (((rd_T64 x12 x14).f2).size : Int))) x12 x13 x14 false ((rd_T64 x12 x14).f0) ((rd_T64 x12 x14).f1) ((rd_T64 x12 x14).f2))) else (none)) else (none)) else (some (wrap64 (x1 - x6), true))
def edit_Back.j1 : Nat → Int → Int → Int → Int → List (S64) → Int → Int → Bool → Int → Int → ByteArray → Option (Int × Bool)
  | 0, _, _, _, _, _, _, _, _, _, _, _ => none
  | k + 1, x1, x6, x7, x11, x12, x13, x14, x34, x268000, x268001, x268002 => if x34 = true then (some (x268000, false)) else (if x11 ≤ x1 then ((edit_more.f x268000 x268001 x268002).bind fun t268 => ((edit_more.f x268000 x268001 x268002).bind fun t269 => (edit_Back.l0 k x1 (wrap64 (x6 + t268)) (wrap64 (x7 + t269)) x12 x13 (wrap64 (x14 + 1))))) else ((edit_more.f x268000 x268001 x268002).bind fun t270 => (edit_Back.l0 k x1 x6 (wrap64 (x7 + t270)) x12 x13 (wrap64 (x14 + 1)))))
end
def edit_Back.f (k : Nat) (l0 : List (S64)) (a1 : Int) : Option (Int × Bool) := edit_Back.l0 k a1 0 0 l0 (l0.length : Int) 0
theorem edit_Back.mono_l : ∀ k, (∀ y0 y1 y2 y3 y4 y5, LeO (edit_Back.l0 k y0 y1 y2 y3 y4 y5) (edit_Back.l0 (k + 1) y0 y1 y2 y3 y4 y5)) ∧ (∀ y0 y1 y2 y3 y4 y5 y6 y7 y8 y9 y10, LeO (edit_Back.j1 k y0 y1 y2 y3 y4 y5 y6 y7 y8 y9 y10) (edit_Back.j1 (k + 1) y0 y1 y2 y3 y4 y5 y6 y7 y8 y9 y10))
  | 0 => ⟨fun _ _ _ _ _ _ r h => by simp [edit_Back.l0] at h, fun _ _ _ _ _ _ _ _ _ _ _ r h => by simp [edit_Back.j1] at h⟩
  | k + 1 => by
    obtain ⟨ih0, ih1⟩ := edit_Back.mono_l k
    refine ⟨?_, ?_⟩
    · intro y0 y1 y2 y3 y4 y5
      unfold edit_Back.l0
      repeat' first
      | (with_reducible exact ih0 _ _ _ _ _ _)
      | (with_reducible exact ih1 _ _ _ _ _ _ _ _ _ _ _)
      | (with_reducible exact LeO.refl _)
      | (with_reducible exact LeO.none _)
      | (with_reducible refine LeO.ite ?_ ?_)
      | (with_reducible refine LeO.bind ?_ (fun _ => ?_))
      | exact ih0 _ _ _ _ _ _
      | exact ih1 _ _ _ _ _ _ _ _ _ _ _
      | exact LeO.none _
      | refine LeO.ite ?_ ?_
      | refine LeO.bind ?_ (fun _ => ?_)
    · intro y0 y1 y2 y3 y4 y5 y6 y7 y8 y9 y10
      unfold edit_Back.j1
      repeat' first
      | (with_reducible exact ih0 _ _ _ _ _ _)
      | (with_reducible exact ih1 _ _ _ _ _ _ _ _ _ _ _)
      | (with_reducible exact LeO.refl _)
      | (with_reducible exact LeO.none _)
      | (with_reducible refine LeO.ite ?_ ?_)
      | (with_reducible refine LeO.bind ?_ (fun _ => ?_))
      | exact ih0 _ _ _ _ _ _
      | exact ih1 _ _ _ _ _ _ _ _ _ _ _
      | exact LeO.none _
      | refine LeO.ite ?_ ?_
      | refine LeO.bind ?_ (fun _ => ?_)
theorem edit_Back.mono : ∀ a0 a1 k, LeO (edit_Back.f k a0 a1) (edit_Back.f (k + 1) a0 a1) := by
  intro a0 a1 k
  obtain ⟨ih0, ih1⟩ := edit_Back.mono_l k
  unfold edit_Back.f
  repeat' first
      | (with_reducible exact ih0 _ _ _ _ _ _)
      | (with_reducible exact ih1 _ _ _ _ _ _ _ _ _ _ _)
      | (with_reducible exact LeO.refl _)
      | (with_reducible exact LeO.none _)
      | (with_reducible refine LeO.ite ?_ ?_)
      | (with_reducible refine LeO.bind ?_ (fun _ => ?_))
      | exact ih0 _ _ _ _ _ _
      | exact ih1 _ _ _ _ _ _ _ _ _ _ _
      | exact LeO.none _
      | refine LeO.ite ?_ ?_
      | refine LeO.bind ?_ (fun _ => ?_)
set_option maxHeartbeats 8000000 in
set_option maxRecDepth 100000 in
theorem edit_Back.calls (k : Nat) (A0 : Option Addr) (c0 : Nat) (l0 : List (S64)) (a1 : Int) (r1 : Int) (r2 : Bool) (w : World) (hr0 : Kd.C k64 w A0 l0.length l0) (hc0 : l0.length ≤ c0) (h : edit_Back.f k l0 a1 = some (r1, r2)) :
    Calls Try.prog 25 #[.slice A0 l0.length c0, .int .i64 a1] w fun e w' => e = .returned (.tuple #[.int .i64 r1, .bool r2]) ∧ Below w.heap.size w w' := by
  have hu64 := Try.underlying64
  have HR0 := Aside0.mk hr0
  have HC0 := Aside0.mk hc0
  clear hr0 hc0
  have HB := Aside0.mk (Below.refl w.heap.size w)
  have H : (edit_Back.l0 k a1 0 0 l0 (l0.length : Int) 0) = some (r1, r2) := h
  clear h
  have H' := Aside0.mk H
  clear H
  go_enter Try.func25, Try.ntmps25
  go_wp2
  go_loopg [6, 7, 14] k (fun kq v6 v7 v14 w' => ∃ (x6_1 : Int) (x7_1 : Int) (x14_1 : Int), v6 = .int .i64 x6_1 ∧ v7 = .int .i64 x7_1 ∧ v14 = .int .i64 x14_1 ∧ Aside0 (edit_Back.l0 kq a1 x6_1 x7_1 l0 (l0.length : Int) x14_1 = some (r1, r2)) ∧ Aside0 (kq ≤ k) ∧ Aside0 (Below w.heap.size w w'))
  case atStart => exact ⟨(0), (0), (0), (by first | rfl | (simp; done) | (simp [*]; done)), (by first | rfl | (simp; done) | (simp [*]; done)), (by first | rfl | (simp; done) | (simp [*]; done)), H', ⟨Nat.le_refl _⟩, ⟨by repeat (first | (with_reducible first | exact HB.out | apply below_alloc | apply pw_below_drewN | apply below_drew1) | exact HB.out)⟩⟩
  case round =>
    clear H'
    try clear c2
    try clear p2
    obtain ⟨x6_1, x7_1, x14_1, rfl, rfl, rfl, HA, HK1, HB⟩ := hrel
    cases gk with
    | zero => exact absurd HA.out (by simp [edit_Back.l0])
    | succ k1 =>
      have H := HA.out
      clear HA
      simp only [edit_Back.l0] at H
      by_cases c3 : x14_1 < (l0.length : Int)
      · rw [if_pos c3] at H
        have c3b0 : decide (x14_1 < (l0.length : Int)) = true := decide_eq_true c3
        clear c3
        by_cases c4 : 0 ≤ x14_1
        · rw [if_pos c4] at H
          have c4b0 : decide (0 ≤ x14_1) = true := decide_eq_true c4
          clear c4
          by_cases c5 : x14_1 < (l0.length : Int)
          · rw [if_pos c5] at H
            have c5b0 : decide (x14_1 < (l0.length : Int)) = true := decide_eq_true c5
            clear c5
            have HC6 := Aside0.mk H
            clear H
            have p266 : 0 ≤ (x14_1 : Int) := of_decide_eq_true (by first | (with_reducible assumption) | assumption)
            have q266 : x14_1 < (l0.length : Int) := of_decide_eq_true (by first | (with_reducible assumption) | assumption)
            obtain ⟨ad266, e266, hx266_0, hx266_1, hx266_2⟩ := at_T64 HR0.out x14_1 p266 q266
            cases e266
            replace hx266_0 := (HB.out.cell (World.block_lt_of_cell? w _ hx266_0)).trans hx266_0
            replace hx266_1 := (HB.out.cell (World.block_lt_of_cell? w _ hx266_1)).trans hx266_1
            replace hx266_2 := (HB.out.cell (World.block_lt_of_cell? w _ hx266_2)).trans hx266_2
            replace p266 := eq_true p266
            replace q266 := eq_true q266
            go_upto_region 7 with (first | ((with_reducible refine gate_dst (N := 9) rfl ?_); refine box_event ?hg (N := 9) ?hd (cs := #[.int .i64 0, .int .i64 0, .string (⟨#[]⟩ : ByteArray)]) (t := 64) ?hr ?_; (case hd => rfl); (case hg => rfl); (case hr => first | (go_simp; done) | (go_simp; rfl)); intro gb267 hg w7 hbox hb; have n0_ := Aside0.mk (below_step (by repeat (first | (with_reducible first | exact HB.out | apply below_alloc | apply pw_below_drewN | apply below_drew1) | exact HB.out)) hb); have n1_ := Aside0.mk (hbox); have n2_ := Aside0.mk ((by rw [hg]; exact (below_size (by repeat (first | (with_reducible first | exact HB.out | apply below_alloc | apply pw_below_drewN | apply below_drew1) | exact HB.out))) : w.heap.size ≤ gb267)); have n3_ := Aside0.mk ((by rw [hg]; exact (below_size (by repeat (first | (with_reducible first | exact HB.out | apply below_alloc | apply pw_below_drewN | apply below_drew1) | exact HB.out))) : w.heap.size ≤ gb267)); clear HB; have HB := n0_; have BK267 := n1_; have GW267 := n2_; have GE267 := n3_; clear n0_ n1_ n2_ n3_; clear hb hbox hg; have hcz8_0 : w7.cell? ⟨gb267, 0, none⟩ = some (.int .i64 0) := (blk_cell BK267.out 0).trans rfl; have hcz8_1 : w7.cell? ⟨gb267, 1, none⟩ = some (.int .i64 0) := (blk_cell BK267.out 1).trans rfl; have hcz8_2 : w7.cell? ⟨gb267, 2, none⟩ = some (.string (⟨#[]⟩ : ByteArray)) := (blk_cell BK267.out 2).trans rfl; have hfz8_0 := blk_frozen BK267.out 0; have hfz8_1 := blk_frozen BK267.out 1; have hfz8_2 := blk_frozen BK267.out 2))
            (try simp only [Act.put, List.setIfInBounds_toArray, List.set_cons_zero, List.set_cons_succ])
            go_cut [34] (fun v34 wc => ∃ (kq : Nat) (x34_5 : Bool), v34 = .bool x34_5 ∧ Aside0 (edit_Back.j1 kq a1 x6_1 x7_1 (wrap64 ((wrap64 (((rd_T64 l0 x14_1).f0) + x7_1)) + (((rd_T64 l0 x14_1).f2).size : Int))) l0 (l0.length : Int) x14_1 x34_5 ((rd_T64 l0 x14_1).f0) ((rd_T64 l0 x14_1).f1) ((rd_T64 l0 x14_1).f2) = some (r1, r2)) ∧ Aside0 (kq ≤ k1) ∧ Aside0 (wc.heap[gb267]? = some (.cells #[.int .i64 ((rd_T64 l0 x14_1).f0), .int .i64 ((rd_T64 l0 x14_1).f1), .string ((rd_T64 l0 x14_1).f2)] 64 (0, 0))) ∧ Aside0 (Below w.heap.size w wc))
            case first =>
              have H := HC6.out
              clear HC6
              by_cases c9 : (wrap64 (((rd_T64 l0 x14_1).f0) + x7_1)) ≤ a1
              · rw [if_pos c9] at H
                have c9b0 : decide ((wrap64 (((rd_T64 l0 x14_1).f0) + x7_1)) ≤ a1) = true := decide_eq_true c9
                (try (have c9b1 : decide ((IntKind.i64.wrap (((rd_T64 l0 x14_1).f0) + x7_1)) ≤ a1) = true := by simp only [i64_w]; exact decide_eq_true c9))
                clear c9
                (first | rw [c9b0] | (simp only [i64_w, i32_w]; rw [c9b0]) | skip)
                have H' := Aside0.mk H
                clear H
                go_wp2
                go_meet
                case rel => exact ⟨_, (decide (a1 < (wrap64 ((wrap64 (((rd_T64 l0 x14_1).f0) + x7_1)) + (((rd_T64 l0 x14_1).f2).size : Int))))), (by first | rfl | (simp; done) | (simp [*]; done)), H', ⟨by have := HK1.out; first | omega | exact Nat.le_refl _⟩, ⟨by (with_reducible repeat (first | refine blk_drewN ?_ _ | refine blk_drew ?_ | refine blk_alloc ?_ _)); refine blk_put (cs := #[.int .i64 ((rd_T64 l0 x14_1).f0), .int .i64 ((rd_T64 l0 x14_1).f1), .string (⟨#[]⟩ : ByteArray)]) ?_ 2 _ rfl; (with_reducible repeat (first | refine blk_drewN ?_ _ | refine blk_drew ?_ | refine blk_alloc ?_ _)); refine blk_put (cs := #[.int .i64 ((rd_T64 l0 x14_1).f0), .int .i64 0, .string (⟨#[]⟩ : ByteArray)]) ?_ 1 _ rfl; (with_reducible repeat (first | refine blk_drewN ?_ _ | refine blk_drew ?_ | refine blk_alloc ?_ _)); refine blk_put (cs := #[.int .i64 0, .int .i64 0, .string (⟨#[]⟩ : ByteArray)]) ?_ 0 _ rfl; (with_reducible repeat (first | refine blk_drewN ?_ _ | refine blk_drew ?_ | refine blk_alloc ?_ _)); exact BK267.out⟩, ⟨by repeat (first | (with_reducible first | exact HB.out | apply below_alloc | apply pw_below_drewN | apply below_drew1 | refine below_set ?_ GE267.out) | exact HB.out)⟩⟩
              · rw [if_neg c9] at H
                have c9b0 : decide ((wrap64 (((rd_T64 l0 x14_1).f0) + x7_1)) ≤ a1) = false := decide_eq_false c9
                (try (have c9b1 : decide ((IntKind.i64.wrap (((rd_T64 l0 x14_1).f0) + x7_1)) ≤ a1) = false := by simp only [i64_w]; exact decide_eq_false c9))
                clear c9
                (first | rw [c9b0] | (simp only [i64_w, i32_w]; rw [c9b0]) | skip)
                have H' := Aside0.mk H
                clear H
                go_wp2
                go_meet
                case rel => exact ⟨_, (false), (by first | rfl | (simp; done) | (simp [*]; done)), H', ⟨by have := HK1.out; first | omega | exact Nat.le_refl _⟩, ⟨by (with_reducible repeat (first | refine blk_drewN ?_ _ | refine blk_drew ?_ | refine blk_alloc ?_ _)); refine blk_put (cs := #[.int .i64 ((rd_T64 l0 x14_1).f0), .int .i64 ((rd_T64 l0 x14_1).f1), .string (⟨#[]⟩ : ByteArray)]) ?_ 2 _ rfl; (with_reducible repeat (first | refine blk_drewN ?_ _ | refine blk_drew ?_ | refine blk_alloc ?_ _)); refine blk_put (cs := #[.int .i64 ((rd_T64 l0 x14_1).f0), .int .i64 0, .string (⟨#[]⟩ : ByteArray)]) ?_ 1 _ rfl; (with_reducible repeat (first | refine blk_drewN ?_ _ | refine blk_drew ?_ | refine blk_alloc ?_ _)); refine blk_put (cs := #[.int .i64 0, .int .i64 0, .string (⟨#[]⟩ : ByteArray)]) ?_ 0 _ rfl; (with_reducible repeat (first | refine blk_drewN ?_ _ | refine blk_drew ?_ | refine blk_alloc ?_ _)); exact BK267.out⟩, ⟨by repeat (first | (with_reducible first | exact HB.out | apply below_alloc | apply pw_below_drewN | apply below_drew1 | refine below_set ?_ GE267.out) | exact HB.out)⟩⟩
            case rest =>
              clear HC6
              try clear c2
              try clear p2
              try clear q2
              try clear hx2
              try clear c3
              try clear c3b0
              try clear c4
              try clear c4b0
              try clear c5
              try clear c5b0
              try clear p6
              try clear c9
              try clear c9b0
              try clear c9b1
              try clear hcz8_0
              try clear hcz8_1
              try clear hcz8_2
              try clear hfz8_0
              try clear hfz8_1
              try clear hfz8_2
              try clear hx266_0
              try clear hx266_1
              try clear hx266_2
              try clear p2
              try clear p266
              try clear q266
              obtain ⟨kq, x34_5, rfl, HA, HJ5, BK267, HB⟩ := hcut
              cases kq with
              | zero => exact absurd HA.out (by simp [edit_Back.j1])
              | succ kj5 =>
                have H := HA.out
                clear HA
                simp only [edit_Back.j1] at H
                by_cases c10 : x34_5 = true
                · subst c10
                  have H1 : (some (((rd_T64 l0 x14_1).f0), false)) = some (r1, r2) := by rw [if_pos rfl] at H; exact H
                  clear H
                  have H := H1
                  clear H1
                  simp only [Option.some.injEq, Prod.mk.injEq] at H
                  obtain ⟨rfl, rfl⟩ := H
                  have hcz11_0 : wc.cell? ⟨gb267, 0, none⟩ = some (.int .i64 ((rd_T64 l0 x14_1).f0)) := (blk_cell BK267.out 0).trans rfl
                  have hcz11_1 : wc.cell? ⟨gb267, 1, none⟩ = some (.int .i64 ((rd_T64 l0 x14_1).f1)) := (blk_cell BK267.out 1).trans rfl
                  have hcz11_2 : wc.cell? ⟨gb267, 2, none⟩ = some (.string ((rd_T64 l0 x14_1).f2)) := (blk_cell BK267.out 2).trans rfl
                  have hfz11_0 := blk_frozen BK267.out 0
                  have hfz11_1 := blk_frozen BK267.out 1
                  have hfz11_2 := blk_frozen BK267.out 2
                  go_wp2
                  go_ret2
                  exact ⟨by first | rfl | (simp [errW_none, errW_some] <;> rfl) | (simp [*, errW_none, errW_some] <;> rfl), by repeat (first | (with_reducible first | exact HB.out | apply below_alloc | apply pw_below_drewN | apply below_drew1 | refine below_set ?_ GE267.out) | exact HB.out)⟩
                · replace c10 := Bool.eq_false_iff.mpr c10
                  subst c10
                  have H1 : (if (wrap64 ((wrap64 (((rd_T64 l0 x14_1).f0) + x7_1)) + (((rd_T64 l0 x14_1).f2).size : Int))) ≤ a1 then ((edit_more.f ((rd_T64 l0 x14_1).f0) ((rd_T64 l0 x14_1).f1) ((rd_T64 l0 x14_1).f2)).bind fun t268 => ((edit_more.f ((rd_T64 l0 x14_1).f0) ((rd_T64 l0 x14_1).f1) ((rd_T64 l0 x14_1).f2)).bind fun t269 => (edit_Back.l0 kj5 a1 (wrap64 (x6_1 + t268)) (wrap64 (x7_1 + t269)) l0 (l0.length : Int) (wrap64 (x14_1 + 1))))) else ((edit_more.f ((rd_T64 l0 x14_1).f0) ((rd_T64 l0 x14_1).f1) ((rd_T64 l0 x14_1).f2)).bind fun t270 => (edit_Back.l0 kj5 a1 x6_1 (wrap64 (x7_1 + t270)) l0 (l0.length : Int) (wrap64 (x14_1 + 1))))) = some (r1, r2) := by rw [if_neg (show ¬ (false = true) by decide)] at H; exact H
                  clear H
                  have H := H1
                  clear H1
                  by_cases c12 : (wrap64 ((wrap64 (((rd_T64 l0 x14_1).f0) + x7_1)) + (((rd_T64 l0 x14_1).f2).size : Int))) ≤ a1
                  · rw [if_pos c12] at H
                    have c12b0 : decide ((wrap64 ((wrap64 (((rd_T64 l0 x14_1).f0) + x7_1)) + (((rd_T64 l0 x14_1).f2).size : Int))) ≤ a1) = true := decide_eq_true c12
                    (try (have c12b1 : decide ((IntKind.i64.wrap ((IntKind.i64.wrap (((rd_T64 l0 x14_1).f0) + x7_1)) + (((rd_T64 l0 x14_1).f2).size : Int))) ≤ a1) = true := by simp only [i64_w]; exact decide_eq_true c12))
                    clear c12
                    replace H := Option.bind_eq_some_iff.mp H
                    obtain ⟨t268, A130, H⟩ := H
                    replace H : ((edit_more.f ((rd_T64 l0 x14_1).f0) ((rd_T64 l0 x14_1).f1) ((rd_T64 l0 x14_1).f2)).bind fun t269 => (edit_Back.l0 kj5 a1 (wrap64 (x6_1 + t268)) (wrap64 (x7_1 + t269)) l0 (l0.length : Int) (wrap64 (x14_1 + 1)))) = some (r1, r2) := H
                    have A13 := Aside0.mk A130
                    clear A130
                    replace H := Option.bind_eq_some_iff.mp H
                    obtain ⟨t269, A140, H⟩ := H
                    replace H : (edit_Back.l0 kj5 a1 (wrap64 (x6_1 + t268)) (wrap64 (x7_1 + t269)) l0 (l0.length : Int) (wrap64 (x14_1 + 1))) = some (r1, r2) := H
                    have A14 := Aside0.mk A140
                    clear A140
                    have H' := Aside0.mk H
                    clear H
                    have hcz15_0 : wc.cell? ⟨gb267, 0, none⟩ = some (.int .i64 ((rd_T64 l0 x14_1).f0)) := (blk_cell BK267.out 0).trans rfl
                    have hcz15_1 : wc.cell? ⟨gb267, 1, none⟩ = some (.int .i64 ((rd_T64 l0 x14_1).f1)) := (blk_cell BK267.out 1).trans rfl
                    have hcz15_2 : wc.cell? ⟨gb267, 2, none⟩ = some (.string ((rd_T64 l0 x14_1).f2)) := (blk_cell BK267.out 2).trans rfl
                    have hfz15_0 := blk_frozen BK267.out 0
                    have hfz15_1 := blk_frozen BK267.out 1
                    have hfz15_2 := blk_frozen BK267.out 2
                    go_wp2_with (first | ((with_reducible refine gate_callee (f := 41) rfl ?_); refine goesL_ (some 42) rfl rfl Try.func41 (by kernel_rfl) rfl #[.agg #[.int .i64 ((rd_T64 l0 x14_1).f0), .int .i64 ((rd_T64 l0 x14_1).f1), .string ((rd_T64 l0 x14_1).f2)]] rfl (by (try simp only [List.map_toArray, List.map_cons, List.map_nil]); first | done | rfl | (simp only [List.length_drop, List.length_take]; rfl)) ?_; (with_reducible refine (edit_more.calls ((rd_T64 l0 x14_1).f0) ((rd_T64 l0 x14_1).f1) ((rd_T64 l0 x14_1).f2) t268 _ A13.out).mono ?_); rintro e w16 ⟨rfl, hb⟩; refine ⟨_, rfl, ?_⟩; have n0_ := Aside0.mk (blk_below (g := gb267) (o := .cells #[.int .i64 ((rd_T64 l0 x14_1).f0), .int .i64 ((rd_T64 l0 x14_1).f1), .string ((rd_T64 l0 x14_1).f2)] 64 (0, 0)) (by (with_reducible repeat (first | refine blk_drewN ?_ _ | refine blk_drew ?_ | refine blk_alloc ?_ _)); exact BK267.out) hb); have n1_ := Aside0.mk (below_step (by repeat (first | (with_reducible first | exact HB.out | apply below_alloc | apply pw_below_drewN | apply below_drew1 | refine below_set ?_ GE267.out) | exact HB.out)) hb); clear BK267; clear HB; have BK267 := n0_; have HB := n1_; clear n0_ n1_; (try clear hb); (try clear hb2); (try clear hk); (try clear hi); have hcz17_0 : w16.cell? ⟨gb267, 0, none⟩ = some (.int .i64 ((rd_T64 l0 x14_1).f0)) := (blk_cell BK267.out 0).trans rfl; have hcz17_1 : w16.cell? ⟨gb267, 1, none⟩ = some (.int .i64 ((rd_T64 l0 x14_1).f1)) := (blk_cell BK267.out 1).trans rfl; have hcz17_2 : w16.cell? ⟨gb267, 2, none⟩ = some (.string ((rd_T64 l0 x14_1).f2)) := (blk_cell BK267.out 2).trans rfl; have hfz17_0 := blk_frozen BK267.out 0; have hfz17_1 := blk_frozen BK267.out 1; have hfz17_2 := blk_frozen BK267.out 2) | ((with_reducible refine gate_callee (f := 41) rfl ?_); refine goesL_ (some 46) rfl rfl Try.func41 (by kernel_rfl) rfl #[.agg #[.int .i64 ((rd_T64 l0 x14_1).f0), .int .i64 ((rd_T64 l0 x14_1).f1), .string ((rd_T64 l0 x14_1).f2)]] rfl (by (try simp only [List.map_toArray, List.map_cons, List.map_nil]); first | done | rfl | (simp only [List.length_drop, List.length_take]; rfl)) ?_; (with_reducible refine (edit_more.calls ((rd_T64 l0 x14_1).f0) ((rd_T64 l0 x14_1).f1) ((rd_T64 l0 x14_1).f2) t269 _ A14.out).mono ?_); rintro e w18 ⟨rfl, hb⟩; refine ⟨_, rfl, ?_⟩; have n0_ := Aside0.mk (blk_below (g := gb267) (o := .cells #[.int .i64 ((rd_T64 l0 x14_1).f0), .int .i64 ((rd_T64 l0 x14_1).f1), .string ((rd_T64 l0 x14_1).f2)] 64 (0, 0)) (by (with_reducible repeat (first | refine blk_drewN ?_ _ | refine blk_drew ?_ | refine blk_alloc ?_ _)); exact BK267.out) hb); have n1_ := Aside0.mk (below_step (by repeat (first | (with_reducible first | exact HB.out | apply below_alloc | apply pw_below_drewN | apply below_drew1 | refine below_set ?_ GE267.out) | exact HB.out)) hb); clear BK267; clear HB; have BK267 := n0_; have HB := n1_; clear n0_ n1_; (try clear hb); (try clear hb2); (try clear hk); (try clear hi)))
                    go_roundg kj5
                    case measure => have := HK1.out; have := HJ5.out; omega
                    case rel => exact ⟨(wrap64 (x6_1 + t268)), (wrap64 (x7_1 + t269)), (wrap64 (x14_1 + 1)), (by first | rfl | (simp; done) | (simp [*]; done)), (by first | rfl | (simp; done) | (simp [*]; done)), (by first | rfl | (simp; done) | (simp [*]; done)), H', ⟨by have := HK1.out; have := HJ5.out; omega⟩, ⟨by repeat (first | (with_reducible first | exact HB.out | apply below_alloc | apply pw_below_drewN | apply below_drew1 | refine below_set ?_ GE267.out) | exact HB.out)⟩⟩
                  · rw [if_neg c12] at H
                    have c12b0 : decide ((wrap64 ((wrap64 (((rd_T64 l0 x14_1).f0) + x7_1)) + (((rd_T64 l0 x14_1).f2).size : Int))) ≤ a1) = false := decide_eq_false c12
                    (try (have c12b1 : decide ((IntKind.i64.wrap ((IntKind.i64.wrap (((rd_T64 l0 x14_1).f0) + x7_1)) + (((rd_T64 l0 x14_1).f2).size : Int))) ≤ a1) = false := by simp only [i64_w]; exact decide_eq_false c12))
                    clear c12
                    replace H := Option.bind_eq_some_iff.mp H
                    obtain ⟨t270, A190, H⟩ := H
                    replace H : (edit_Back.l0 kj5 a1 x6_1 (wrap64 (x7_1 + t270)) l0 (l0.length : Int) (wrap64 (x14_1 + 1))) = some (r1, r2) := H
                    have A19 := Aside0.mk A190
                    clear A190
                    have H' := Aside0.mk H
                    clear H
                    have hcz20_0 : wc.cell? ⟨gb267, 0, none⟩ = some (.int .i64 ((rd_T64 l0 x14_1).f0)) := (blk_cell BK267.out 0).trans rfl
                    have hcz20_1 : wc.cell? ⟨gb267, 1, none⟩ = some (.int .i64 ((rd_T64 l0 x14_1).f1)) := (blk_cell BK267.out 1).trans rfl
                    have hcz20_2 : wc.cell? ⟨gb267, 2, none⟩ = some (.string ((rd_T64 l0 x14_1).f2)) := (blk_cell BK267.out 2).trans rfl
                    have hfz20_0 := blk_frozen BK267.out 0
                    have hfz20_1 := blk_frozen BK267.out 1
                    have hfz20_2 := blk_frozen BK267.out 2
                    go_wp2_with (first | ((with_reducible refine gate_callee (f := 41) rfl ?_); refine goesL_ (some 46) rfl rfl Try.func41 (by kernel_rfl) rfl #[.agg #[.int .i64 ((rd_T64 l0 x14_1).f0), .int .i64 ((rd_T64 l0 x14_1).f1), .string ((rd_T64 l0 x14_1).f2)]] rfl (by (try simp only [List.map_toArray, List.map_cons, List.map_nil]); first | done | rfl | (simp only [List.length_drop, List.length_take]; rfl)) ?_; (with_reducible refine (edit_more.calls ((rd_T64 l0 x14_1).f0) ((rd_T64 l0 x14_1).f1) ((rd_T64 l0 x14_1).f2) t270 _ A19.out).mono ?_); rintro e w21 ⟨rfl, hb⟩; refine ⟨_, rfl, ?_⟩; have n0_ := Aside0.mk (blk_below (g := gb267) (o := .cells #[.int .i64 ((rd_T64 l0 x14_1).f0), .int .i64 ((rd_T64 l0 x14_1).f1), .string ((rd_T64 l0 x14_1).f2)] 64 (0, 0)) (by (with_reducible repeat (first | refine blk_drewN ?_ _ | refine blk_drew ?_ | refine blk_alloc ?_ _)); exact BK267.out) hb); have n1_ := Aside0.mk (below_step (by repeat (first | (with_reducible first | exact HB.out | apply below_alloc | apply pw_below_drewN | apply below_drew1 | refine below_set ?_ GE267.out) | exact HB.out)) hb); clear BK267; clear HB; have BK267 := n0_; have HB := n1_; clear n0_ n1_; (try clear hb); (try clear hb2); (try clear hk); (try clear hi)))
                    go_roundg kj5
                    case measure => have := HK1.out; have := HJ5.out; omega
                    case rel => exact ⟨(x6_1), (wrap64 (x7_1 + t270)), (wrap64 (x14_1 + 1)), (by first | rfl | (simp; done) | (simp [*]; done)), (by first | rfl | (simp; done) | (simp [*]; done)), (by first | rfl | (simp; done) | (simp [*]; done)), H', ⟨by have := HK1.out; have := HJ5.out; omega⟩, ⟨by repeat (first | (with_reducible first | exact HB.out | apply below_alloc | apply pw_below_drewN | apply below_drew1 | refine below_set ?_ GE267.out) | exact HB.out)⟩⟩
          · rw [if_neg c5] at H
            exact absurd H (by simp)
        · rw [if_neg c4] at H
          exact absurd H (by simp)
      · rw [if_neg c3] at H
        have c3b0 : decide (x14_1 < (l0.length : Int)) = false := decide_eq_false c3
        clear c3
        simp only [Option.some.injEq, Prod.mk.injEq] at H
        obtain ⟨rfl, rfl⟩ := H
        go_wp2
        go_ret2
        exact ⟨by first | rfl | (simp [errW_none, errW_some] <;> rfl) | (simp [*, errW_none, errW_some] <;> rfl), by repeat (first | (with_reducible first | exact HB.out | apply below_alloc | apply pw_below_drewN | apply below_drew1) | exact HB.out)⟩

/-! ### cavilref04_Back: function 26 -/
mutual
def cavilref04_Back.l0 : Nat → List (S64) → Int → Int → Option (Int × Bool)
  | 0, _, _, _ => none
  | k + 1, x0, x1, x6 => if x6 < (x0.length : Int) then (if 0 ≤ x6 then (if x6 ≤ (x0.length : Int) then ((cavilref04_Grow.f k (x0.take (x6 : Int).toNat)).bind fun t276 => (if (wrap64 (((rd_T64 x0 x6).f0) + t276)) ≤ x1 then (if x1 < (wrap64 ((wrap64 (((rd_T64 x0 x6).f0) + t276)) + (((rd_T64 x0 x6).f2).size : Int))) then (some ((rd_T64 x0 x6).f0, false)) else (cavilref04_Back.l0 k x0 x1 (wrap64 (x6 + 1)))) else (cavilref04_Back.l0 k x0 x1 (wrap64 (x6 + 1))))) else (none)) else (none)) else (cavilref04_Back.l1 k x0 x1 x1 0)
def cavilref04_Back.l1 : Nat → List (S64) → Int → Int → Int → Option (Int × Bool)
  | 0, _, _, _, _ => none
  | k + 1, x0, x1, x8, x9 => if x9 < (x0.length : Int) then (if 0 ≤ x9 then (if x9 ≤ (x0.length : Int) then ((cavilref04_Grow.f k (x0.take (x9 : Int).toNat)).bind fun t284 => (if (wrap64 ((wrap64 (((rd_T64 x0 x9).f0) + t284)) + (((rd_T64 x0 x9).f2).size : Int))) ≤ x1 then (if x9 ≤ (wrap64 (x9 + 1)) then (if (wrap64 (x9 + 1)) ≤ (x0.length : Int) then ((cavilref04_Grow.f k ((x0.take ((wrap64 (x9 + 1)) : Int).toNat).drop (x9 : Int).toNat)).bind fun t290 => (cavilref04_Back.l1 k x0 x1 (wrap64 (x8 - t290)) (wrap64 (x9 + 1)))) else (none)) else (none)) else (cavilref04_Back.l1 k x0 x1 x8 (wrap64 (x9 + 1))))) else (none)) else (none)) else (some (x8, true))
end
def cavilref04_Back.f (k : Nat) (l0 : List (S64)) (a1 : Int) : Option (Int × Bool) := cavilref04_Back.l0 k l0 a1 0
theorem cavilref04_Back.mono_l : ∀ k, (∀ y0 y1 y2, LeO (cavilref04_Back.l0 k y0 y1 y2) (cavilref04_Back.l0 (k + 1) y0 y1 y2)) ∧ (∀ y0 y1 y2 y3, LeO (cavilref04_Back.l1 k y0 y1 y2 y3) (cavilref04_Back.l1 (k + 1) y0 y1 y2 y3))
  | 0 => ⟨fun _ _ _ r h => by simp [cavilref04_Back.l0] at h, fun _ _ _ _ r h => by simp [cavilref04_Back.l1] at h⟩
  | k + 1 => by
    obtain ⟨ih0, ih1⟩ := cavilref04_Back.mono_l k
    refine ⟨?_, ?_⟩
    · intro y0 y1 y2
      unfold cavilref04_Back.l0
      repeat' first
      | (with_reducible exact ih0 _ _ _)
      | (with_reducible exact ih1 _ _ _ _)
      | (with_reducible exact cavilref04_Grow.mono _ _)
      | (with_reducible exact LeO.refl _)
      | (with_reducible exact LeO.none _)
      | (with_reducible refine LeO.ite ?_ ?_)
      | (with_reducible refine LeO.bind ?_ (fun _ => ?_))
      | exact ih0 _ _ _
      | exact ih1 _ _ _ _
      | exact cavilref04_Grow.mono _ _
      | exact LeO.none _
      | refine LeO.ite ?_ ?_
      | refine LeO.bind ?_ (fun _ => ?_)
    · intro y0 y1 y2 y3
      unfold cavilref04_Back.l1
      repeat' first
      | (with_reducible exact ih0 _ _ _)
      | (with_reducible exact ih1 _ _ _ _)
      | (with_reducible exact cavilref04_Grow.mono _ _)
      | (with_reducible exact LeO.refl _)
      | (with_reducible exact LeO.none _)
      | (with_reducible refine LeO.ite ?_ ?_)
      | (with_reducible refine LeO.bind ?_ (fun _ => ?_))
      | exact ih0 _ _ _
      | exact ih1 _ _ _ _
      | exact cavilref04_Grow.mono _ _
      | exact LeO.none _
      | refine LeO.ite ?_ ?_
      | refine LeO.bind ?_ (fun _ => ?_)
theorem cavilref04_Back.mono : ∀ a0 a1 k, LeO (cavilref04_Back.f k a0 a1) (cavilref04_Back.f (k + 1) a0 a1) := by
  intro a0 a1 k
  obtain ⟨ih0, ih1⟩ := cavilref04_Back.mono_l k
  unfold cavilref04_Back.f
  repeat' first
      | (with_reducible exact ih0 _ _ _)
      | (with_reducible exact ih1 _ _ _ _)
      | (with_reducible exact cavilref04_Grow.mono _ _)
      | (with_reducible exact LeO.refl _)
      | (with_reducible exact LeO.none _)
      | (with_reducible refine LeO.ite ?_ ?_)
      | (with_reducible refine LeO.bind ?_ (fun _ => ?_))
      | exact ih0 _ _ _
      | exact ih1 _ _ _ _
      | exact cavilref04_Grow.mono _ _
      | exact LeO.none _
      | refine LeO.ite ?_ ?_
      | refine LeO.bind ?_ (fun _ => ?_)
set_option maxHeartbeats 8000000 in
set_option maxRecDepth 100000 in
theorem cavilref04_Back.calls (k : Nat) (A0 : Option Addr) (c0 : Nat) (l0 : List (S64)) (a1 : Int) (r1 : Int) (r2 : Bool) (w : World) (hr0 : Kd.C k64 w A0 l0.length l0) (hc0 : l0.length ≤ c0) (h : cavilref04_Back.f k l0 a1 = some (r1, r2)) :
    Calls Try.prog 26 #[.slice A0 l0.length c0, .int .i64 a1] w fun e w' => e = .returned (.tuple #[.int .i64 r1, .bool r2]) ∧ Drawn0 w w' := by
  have HR0 := Aside0.mk hr0
  have HC0 := Aside0.mk hc0
  clear hr0 hc0
  have H : (cavilref04_Back.l0 k l0 a1 0) = some (r1, r2) := h
  clear h
  have H' := Aside0.mk H
  clear H
  go_enter Try.func26, Try.ntmps26
  go_wp2
  repeat (go_quiet (fail); try go_wp2)
  go_loopg [6] k (fun kq v6 w' => ∃ (x6_1 : Int), v6 = .int .i64 x6_1 ∧ Aside0 (cavilref04_Back.l0 kq l0 a1 x6_1 = some (r1, r2)) ∧ Aside0 (kq ≤ k) ∧ Drawn0 w w')
  case atStart => exact ⟨(0), (by first | rfl | (simp; done) | (simp [*]; done)), H', ⟨Nat.le_refl _⟩, by repeat (first | exact Drawn0.refl _ | apply Drawn0.step)⟩
  case round =>
    clear H'
    try clear c2
    try clear p2
    obtain ⟨x6_1, rfl, HA, HK1, ⟨m1, rfl⟩⟩ := hrel
    cases gk with
    | zero => exact absurd HA.out (by simp [cavilref04_Back.l0])
    | succ k1 =>
      have H := HA.out
      clear HA
      simp only [cavilref04_Back.l0] at H
      by_cases c3 : x6_1 < (l0.length : Int)
      · rw [if_pos c3] at H
        have c3b0 : decide (x6_1 < (l0.length : Int)) = true := decide_eq_true c3
        clear c3
        by_cases c4 : 0 ≤ x6_1
        · rw [if_pos c4] at H
          have c4b0 : decide (0 ≤ x6_1) = true := decide_eq_true c4
          clear c4
          have c5b0 := eq_true (of_decide_eq_true (by first | (with_reducible assumption) | assumption) : 0 ≤ x6_1)
          by_cases c6 : x6_1 ≤ (l0.length : Int)
          · rw [if_pos c6] at H
            have c6b0 := eq_true c6
            have c6b1 : decide (x6_1 ≤ (l0.length : Int)) = true := decide_eq_true c6
            clear c6
            obtain ⟨y272, hy272⟩ : ∃ y_ : List (S64), y_ = (l0.take (x6_1 : Int).toNat) := ⟨_, rfl⟩
            replace H : ((cavilref04_Grow.f k1 y272).bind fun t276 => (if (wrap64 (((rd_T64 l0 x6_1).f0) + t276)) ≤ a1 then (if a1 < (wrap64 ((wrap64 (((rd_T64 l0 x6_1).f0) + t276)) + (((rd_T64 l0 x6_1).f2).size : Int))) then (some ((rd_T64 l0 x6_1).f0, false)) else (cavilref04_Back.l0 k1 l0 a1 (wrap64 (x6_1 + 1)))) else (cavilref04_Back.l0 k1 l0 a1 (wrap64 (x6_1 + 1))))) = some (r1, r2) := by first | (rw [hy272]; with_reducible exact H) | (have H2_ := (Option.bind_some _ _).symm.trans H; rw [hy272]; with_reducible exact H2_) | (have H2_ := (Option.bind_some _ _).symm.trans H; with_reducible exact H2_) | with_reducible exact H | (rw [hy272]; exact H) | exact H
            have Ny272 := Aside0.mk hy272
            clear hy272
            replace H := Option.bind_eq_some_iff.mp H
            obtain ⟨t276, A70, H⟩ := H
            replace H : (if (wrap64 (((rd_T64 l0 x6_1).f0) + t276)) ≤ a1 then (if a1 < (wrap64 ((wrap64 (((rd_T64 l0 x6_1).f0) + t276)) + (((rd_T64 l0 x6_1).f2).size : Int))) then (some ((rd_T64 l0 x6_1).f0, false)) else (cavilref04_Back.l0 k1 l0 a1 (wrap64 (x6_1 + 1)))) else (cavilref04_Back.l0 k1 l0 a1 (wrap64 (x6_1 + 1)))) = some (r1, r2) := H
            have A7 := Aside0.mk A70
            clear A70
            by_cases c8 : (wrap64 (((rd_T64 l0 x6_1).f0) + t276)) ≤ a1
            · rw [if_pos c8] at H
              have c8b0 : decide ((wrap64 (((rd_T64 l0 x6_1).f0) + t276)) ≤ a1) = true := decide_eq_true c8
              (try (have c8b1 : decide ((IntKind.i64.wrap (((rd_T64 l0 x6_1).f0) + t276)) ≤ a1) = true := by simp only [i64_w]; exact decide_eq_true c8))
              clear c8
              by_cases c9 : a1 < (wrap64 ((wrap64 (((rd_T64 l0 x6_1).f0) + t276)) + (((rd_T64 l0 x6_1).f2).size : Int)))
              · rw [if_pos c9] at H
                have c9b0 : decide (a1 < (wrap64 ((wrap64 (((rd_T64 l0 x6_1).f0) + t276)) + (((rd_T64 l0 x6_1).f2).size : Int)))) = true := decide_eq_true c9
                (try (have c9b1 : decide (a1 < (IntKind.i64.wrap ((IntKind.i64.wrap (((rd_T64 l0 x6_1).f0) + t276)) + (((rd_T64 l0 x6_1).f2).size : Int)))) = true := by simp only [i64_w]; exact decide_eq_true c9))
                clear c9
                simp only [Option.some.injEq, Prod.mk.injEq] at H
                obtain ⟨rfl, rfl⟩ := H
                have p271 : 0 ≤ (x6_1 : Int) := of_decide_eq_true (by first | (with_reducible assumption) | assumption)
                have q271 : x6_1 < (l0.length : Int) := of_decide_eq_true (by first | (with_reducible assumption) | assumption)
                obtain ⟨ad271, e271, hx271_0, hx271_1, hx271_2⟩ := at_T64 HR0.out x6_1 p271 q271
                cases e271
                replace p271 := eq_true p271
                replace q271 := eq_true q271
                have q10 : (x6_1 : Int) ≤ ((l0.length : Int) : Int) := of_decide_eq_true (by first | (with_reducible assumption) | assumption)
                obtain ⟨i010, hi010, _, hsz10, _⟩ := info_parts info64
                have hroom10 : l0.length ≤ c0 := HC0.out
                have hC10 : Kd.C k64 _ (some ad271) l0.length l0 := HR0.out
                have hcut10 := cut_to (P := Try.prog) 55 64 .i64 Try.underlying55 hi010 (some ad271) l0.length c0 x6_1 (of_decide_eq_true (by first | (with_reducible assumption) | assumption)) q10 hroom10
                have hr10 := Kd.C_take (m := (x6_1 : Int).toNat) hC10 (by omega)
                have hy10 : y272.length = (x6_1 : Int).toNat := (by rw [Ny272.out, List.length_take]; omega)
                rw [← Ny272.out] at hr10
                rw [← hy10] at hcut10
                have HR275 := Aside0.mk hr10
                have HC275 := Aside0.mk (show y272.length ≤ c0 from by omega)
                clear hr10 hC10 hroom10 hi010 hsz10
                have KY10 := Aside0.mk hy10
                clear hy10
                replace q10 := eq_true q10
                go_wp2_with (first | (go_at_call 28; (with_reducible refine (cavilref04_Grow.calls k1 _ _ y272 t276 _ ?side1 ?side2 A7.out).mono ?_); (case side1 => repeat (first | exact HR275.out | (with_reducible refine Kd.C_alloc ?_ _) | (with_reducible refine Kd.C_drewN ?_ _) | (with_reducible refine Kd.C_drew ?_))); (case side2 => exact HC275.out); rintro e w' ⟨rfl, ⟨nd, rfl⟩⟩; (try first | exact ⟨rfl, _, World.drewN_drewN _ _ _⟩ | exact ⟨rfl, _, Eq.trans (World.drewN_drewN _ _ _) (congrArg (World.drewN _) (Nat.add_assoc _ _ _))⟩); have p277 : 0 ≤ (x6_1 : Int) := of_decide_eq_true (by first | (with_reducible assumption) | assumption); have q277 : x6_1 < (l0.length : Int) := of_decide_eq_true (by first | (with_reducible assumption) | assumption); obtain ⟨ad277, e277, hx277_0, hx277_1, hx277_2⟩ := at_T64 HR0.out x6_1 p277 q277; obtain rfl : ad271 = ad277 := (by injection e277); replace p277 := eq_true p277; replace q277 := eq_true q277; have p278 : 0 ≤ (x6_1 : Int) := of_decide_eq_true (by first | (with_reducible assumption) | assumption); have q278 : x6_1 < (l0.length : Int) := of_decide_eq_true (by first | (with_reducible assumption) | assumption); obtain ⟨ad278, e278, hx278_0, hx278_1, hx278_2⟩ := at_T64 HR0.out x6_1 p278 q278; obtain rfl : ad271 = ad278 := (by injection e278); replace p278 := eq_true p278; replace q278 := eq_true q278))
                repeat (go_quiet (first | (go_at_call 28; (with_reducible refine (cavilref04_Grow.calls k1 _ _ y272 t276 _ ?side1 ?side2 A7.out).mono ?_); (case side1 => repeat (first | exact HR275.out | (with_reducible refine Kd.C_alloc ?_ _) | (with_reducible refine Kd.C_drewN ?_ _) | (with_reducible refine Kd.C_drew ?_))); (case side2 => exact HC275.out); rintro e w' ⟨rfl, ⟨nd, rfl⟩⟩; (try first | exact ⟨rfl, _, World.drewN_drewN _ _ _⟩ | exact ⟨rfl, _, Eq.trans (World.drewN_drewN _ _ _) (congrArg (World.drewN _) (Nat.add_assoc _ _ _))⟩); have p277 : 0 ≤ (x6_1 : Int) := of_decide_eq_true (by first | (with_reducible assumption) | assumption); have q277 : x6_1 < (l0.length : Int) := of_decide_eq_true (by first | (with_reducible assumption) | assumption); obtain ⟨ad277, e277, hx277_0, hx277_1, hx277_2⟩ := at_T64 HR0.out x6_1 p277 q277; obtain rfl : ad271 = ad277 := (by injection e277); replace p277 := eq_true p277; replace q277 := eq_true q277; have p278 : 0 ≤ (x6_1 : Int) := of_decide_eq_true (by first | (with_reducible assumption) | assumption); have q278 : x6_1 < (l0.length : Int) := of_decide_eq_true (by first | (with_reducible assumption) | assumption); obtain ⟨ad278, e278, hx278_0, hx278_1, hx278_2⟩ := at_T64 HR0.out x6_1 p278 q278; obtain rfl : ad271 = ad278 := (by injection e278); replace p278 := eq_true p278; replace q278 := eq_true q278)); try go_wp2_with (first | (go_at_call 28; (with_reducible refine (cavilref04_Grow.calls k1 _ _ y272 t276 _ ?side1 ?side2 A7.out).mono ?_); (case side1 => repeat (first | exact HR275.out | (with_reducible refine Kd.C_alloc ?_ _) | (with_reducible refine Kd.C_drewN ?_ _) | (with_reducible refine Kd.C_drew ?_))); (case side2 => exact HC275.out); rintro e w' ⟨rfl, ⟨nd, rfl⟩⟩; (try first | exact ⟨rfl, _, World.drewN_drewN _ _ _⟩ | exact ⟨rfl, _, Eq.trans (World.drewN_drewN _ _ _) (congrArg (World.drewN _) (Nat.add_assoc _ _ _))⟩); have p277 : 0 ≤ (x6_1 : Int) := of_decide_eq_true (by first | (with_reducible assumption) | assumption); have q277 : x6_1 < (l0.length : Int) := of_decide_eq_true (by first | (with_reducible assumption) | assumption); obtain ⟨ad277, e277, hx277_0, hx277_1, hx277_2⟩ := at_T64 HR0.out x6_1 p277 q277; obtain rfl : ad271 = ad277 := (by injection e277); replace p277 := eq_true p277; replace q277 := eq_true q277; have p278 : 0 ≤ (x6_1 : Int) := of_decide_eq_true (by first | (with_reducible assumption) | assumption); have q278 : x6_1 < (l0.length : Int) := of_decide_eq_true (by first | (with_reducible assumption) | assumption); obtain ⟨ad278, e278, hx278_0, hx278_1, hx278_2⟩ := at_T64 HR0.out x6_1 p278 q278; obtain rfl : ad271 = ad278 := (by injection e278); replace p278 := eq_true p278; replace q278 := eq_true q278)))
                go_ret2
                exact ⟨by first | rfl | (simp; done) | (simp [*]; done), by repeat (first | exact Drawn0.refl _ | apply Drawn0.step)⟩
              · rw [if_neg c9] at H
                have c9b0 : decide (a1 < (wrap64 ((wrap64 (((rd_T64 l0 x6_1).f0) + t276)) + (((rd_T64 l0 x6_1).f2).size : Int)))) = false := decide_eq_false c9
                (try (have c9b1 : decide (a1 < (IntKind.i64.wrap ((IntKind.i64.wrap (((rd_T64 l0 x6_1).f0) + t276)) + (((rd_T64 l0 x6_1).f2).size : Int)))) = false := by simp only [i64_w]; exact decide_eq_false c9))
                clear c9
                have H' := Aside0.mk H
                clear H
                have p271 : 0 ≤ (x6_1 : Int) := of_decide_eq_true (by first | (with_reducible assumption) | assumption)
                have q271 : x6_1 < (l0.length : Int) := of_decide_eq_true (by first | (with_reducible assumption) | assumption)
                obtain ⟨ad271, e271, hx271_0, hx271_1, hx271_2⟩ := at_T64 HR0.out x6_1 p271 q271
                cases e271
                replace p271 := eq_true p271
                replace q271 := eq_true q271
                have q11 : (x6_1 : Int) ≤ ((l0.length : Int) : Int) := of_decide_eq_true (by first | (with_reducible assumption) | assumption)
                obtain ⟨i011, hi011, _, hsz11, _⟩ := info_parts info64
                have hroom11 : l0.length ≤ c0 := HC0.out
                have hC11 : Kd.C k64 _ (some ad271) l0.length l0 := HR0.out
                have hcut11 := cut_to (P := Try.prog) 55 64 .i64 Try.underlying55 hi011 (some ad271) l0.length c0 x6_1 (of_decide_eq_true (by first | (with_reducible assumption) | assumption)) q11 hroom11
                have hr11 := Kd.C_take (m := (x6_1 : Int).toNat) hC11 (by omega)
                have hy11 : y272.length = (x6_1 : Int).toNat := (by rw [Ny272.out, List.length_take]; omega)
                rw [← Ny272.out] at hr11
                rw [← hy11] at hcut11
                have HR275 := Aside0.mk hr11
                have HC275 := Aside0.mk (show y272.length ≤ c0 from by omega)
                clear hr11 hC11 hroom11 hi011 hsz11
                have KY11 := Aside0.mk hy11
                clear hy11
                replace q11 := eq_true q11
                go_wp2_with (first | (go_at_call 28; (with_reducible refine (cavilref04_Grow.calls k1 _ _ y272 t276 _ ?side1 ?side2 A7.out).mono ?_); (case side1 => repeat (first | exact HR275.out | (with_reducible refine Kd.C_alloc ?_ _) | (with_reducible refine Kd.C_drewN ?_ _) | (with_reducible refine Kd.C_drew ?_))); (case side2 => exact HC275.out); rintro e w' ⟨rfl, ⟨nd, rfl⟩⟩; (try first | exact ⟨rfl, _, World.drewN_drewN _ _ _⟩ | exact ⟨rfl, _, Eq.trans (World.drewN_drewN _ _ _) (congrArg (World.drewN _) (Nat.add_assoc _ _ _))⟩); have p277 : 0 ≤ (x6_1 : Int) := of_decide_eq_true (by first | (with_reducible assumption) | assumption); have q277 : x6_1 < (l0.length : Int) := of_decide_eq_true (by first | (with_reducible assumption) | assumption); obtain ⟨ad277, e277, hx277_0, hx277_1, hx277_2⟩ := at_T64 HR0.out x6_1 p277 q277; obtain rfl : ad271 = ad277 := (by injection e277); replace p277 := eq_true p277; replace q277 := eq_true q277))
                repeat (go_quiet (first | (go_at_call 28; (with_reducible refine (cavilref04_Grow.calls k1 _ _ y272 t276 _ ?side1 ?side2 A7.out).mono ?_); (case side1 => repeat (first | exact HR275.out | (with_reducible refine Kd.C_alloc ?_ _) | (with_reducible refine Kd.C_drewN ?_ _) | (with_reducible refine Kd.C_drew ?_))); (case side2 => exact HC275.out); rintro e w' ⟨rfl, ⟨nd, rfl⟩⟩; (try first | exact ⟨rfl, _, World.drewN_drewN _ _ _⟩ | exact ⟨rfl, _, Eq.trans (World.drewN_drewN _ _ _) (congrArg (World.drewN _) (Nat.add_assoc _ _ _))⟩); have p277 : 0 ≤ (x6_1 : Int) := of_decide_eq_true (by first | (with_reducible assumption) | assumption); have q277 : x6_1 < (l0.length : Int) := of_decide_eq_true (by first | (with_reducible assumption) | assumption); obtain ⟨ad277, e277, hx277_0, hx277_1, hx277_2⟩ := at_T64 HR0.out x6_1 p277 q277; obtain rfl : ad271 = ad277 := (by injection e277); replace p277 := eq_true p277; replace q277 := eq_true q277)); try go_wp2_with (first | (go_at_call 28; (with_reducible refine (cavilref04_Grow.calls k1 _ _ y272 t276 _ ?side1 ?side2 A7.out).mono ?_); (case side1 => repeat (first | exact HR275.out | (with_reducible refine Kd.C_alloc ?_ _) | (with_reducible refine Kd.C_drewN ?_ _) | (with_reducible refine Kd.C_drew ?_))); (case side2 => exact HC275.out); rintro e w' ⟨rfl, ⟨nd, rfl⟩⟩; (try first | exact ⟨rfl, _, World.drewN_drewN _ _ _⟩ | exact ⟨rfl, _, Eq.trans (World.drewN_drewN _ _ _) (congrArg (World.drewN _) (Nat.add_assoc _ _ _))⟩); have p277 : 0 ≤ (x6_1 : Int) := of_decide_eq_true (by first | (with_reducible assumption) | assumption); have q277 : x6_1 < (l0.length : Int) := of_decide_eq_true (by first | (with_reducible assumption) | assumption); obtain ⟨ad277, e277, hx277_0, hx277_1, hx277_2⟩ := at_T64 HR0.out x6_1 p277 q277; obtain rfl : ad271 = ad277 := (by injection e277); replace p277 := eq_true p277; replace q277 := eq_true q277)))
                go_roundg k1
                case measure => have := HK1.out; omega
                case rel => exact ⟨(wrap64 (x6_1 + 1)), (by first | rfl | (simp; done) | (simp [*]; done)), H', ⟨by have := HK1.out; omega⟩, by repeat (first | exact Drawn0.refl _ | apply Drawn0.step)⟩
            · rw [if_neg c8] at H
              have c8b0 : decide ((wrap64 (((rd_T64 l0 x6_1).f0) + t276)) ≤ a1) = false := decide_eq_false c8
              (try (have c8b1 : decide ((IntKind.i64.wrap (((rd_T64 l0 x6_1).f0) + t276)) ≤ a1) = false := by simp only [i64_w]; exact decide_eq_false c8))
              clear c8
              have H' := Aside0.mk H
              clear H
              have p271 : 0 ≤ (x6_1 : Int) := of_decide_eq_true (by first | (with_reducible assumption) | assumption)
              have q271 : x6_1 < (l0.length : Int) := of_decide_eq_true (by first | (with_reducible assumption) | assumption)
              obtain ⟨ad271, e271, hx271_0, hx271_1, hx271_2⟩ := at_T64 HR0.out x6_1 p271 q271
              cases e271
              replace p271 := eq_true p271
              replace q271 := eq_true q271
              have q12 : (x6_1 : Int) ≤ ((l0.length : Int) : Int) := of_decide_eq_true (by first | (with_reducible assumption) | assumption)
              obtain ⟨i012, hi012, _, hsz12, _⟩ := info_parts info64
              have hroom12 : l0.length ≤ c0 := HC0.out
              have hC12 : Kd.C k64 _ (some ad271) l0.length l0 := HR0.out
              have hcut12 := cut_to (P := Try.prog) 55 64 .i64 Try.underlying55 hi012 (some ad271) l0.length c0 x6_1 (of_decide_eq_true (by first | (with_reducible assumption) | assumption)) q12 hroom12
              have hr12 := Kd.C_take (m := (x6_1 : Int).toNat) hC12 (by omega)
              have hy12 : y272.length = (x6_1 : Int).toNat := (by rw [Ny272.out, List.length_take]; omega)
              rw [← Ny272.out] at hr12
              rw [← hy12] at hcut12
              have HR275 := Aside0.mk hr12
              have HC275 := Aside0.mk (show y272.length ≤ c0 from by omega)
              clear hr12 hC12 hroom12 hi012 hsz12
              have KY12 := Aside0.mk hy12
              clear hy12
              replace q12 := eq_true q12
              go_wp2_with (first | (go_at_call 28; (with_reducible refine (cavilref04_Grow.calls k1 _ _ y272 t276 _ ?side1 ?side2 A7.out).mono ?_); (case side1 => repeat (first | exact HR275.out | (with_reducible refine Kd.C_alloc ?_ _) | (with_reducible refine Kd.C_drewN ?_ _) | (with_reducible refine Kd.C_drew ?_))); (case side2 => exact HC275.out); rintro e w' ⟨rfl, ⟨nd, rfl⟩⟩; (try first | exact ⟨rfl, _, World.drewN_drewN _ _ _⟩ | exact ⟨rfl, _, Eq.trans (World.drewN_drewN _ _ _) (congrArg (World.drewN _) (Nat.add_assoc _ _ _))⟩)))
              repeat (go_quiet (first | (go_at_call 28; (with_reducible refine (cavilref04_Grow.calls k1 _ _ y272 t276 _ ?side1 ?side2 A7.out).mono ?_); (case side1 => repeat (first | exact HR275.out | (with_reducible refine Kd.C_alloc ?_ _) | (with_reducible refine Kd.C_drewN ?_ _) | (with_reducible refine Kd.C_drew ?_))); (case side2 => exact HC275.out); rintro e w' ⟨rfl, ⟨nd, rfl⟩⟩; (try first | exact ⟨rfl, _, World.drewN_drewN _ _ _⟩ | exact ⟨rfl, _, Eq.trans (World.drewN_drewN _ _ _) (congrArg (World.drewN _) (Nat.add_assoc _ _ _))⟩))); try go_wp2_with (first | (go_at_call 28; (with_reducible refine (cavilref04_Grow.calls k1 _ _ y272 t276 _ ?side1 ?side2 A7.out).mono ?_); (case side1 => repeat (first | exact HR275.out | (with_reducible refine Kd.C_alloc ?_ _) | (with_reducible refine Kd.C_drewN ?_ _) | (with_reducible refine Kd.C_drew ?_))); (case side2 => exact HC275.out); rintro e w' ⟨rfl, ⟨nd, rfl⟩⟩; (try first | exact ⟨rfl, _, World.drewN_drewN _ _ _⟩ | exact ⟨rfl, _, Eq.trans (World.drewN_drewN _ _ _) (congrArg (World.drewN _) (Nat.add_assoc _ _ _))⟩))))
              go_roundg k1
              case measure => have := HK1.out; omega
              case rel => exact ⟨(wrap64 (x6_1 + 1)), (by first | rfl | (simp; done) | (simp [*]; done)), H', ⟨by have := HK1.out; omega⟩, by repeat (first | exact Drawn0.refl _ | apply Drawn0.step)⟩
          · rw [if_neg c6] at H
            exact absurd H (by simp)
        · rw [if_neg c4] at H
          exact absurd H (by simp)
      · rw [if_neg c3] at H
        have c3b0 : decide (x6_1 < (l0.length : Int)) = false := decide_eq_false c3
        clear c3
        have H' := Aside0.mk H
        clear H
        go_wp2
        repeat (go_quiet (fail); try go_wp2)
        go_loopg [8, 9] k1 (fun kq v8 v9 w' => ∃ (x8_2 : Int) (x9_2 : Int), v8 = .int .i64 x8_2 ∧ v9 = .int .i64 x9_2 ∧ Aside0 (cavilref04_Back.l1 kq l0 a1 x8_2 x9_2 = some (r1, r2)) ∧ Aside0 (kq ≤ k1) ∧ Drawn0 w w')
        case atStart => exact ⟨(a1), (0), (by first | rfl | (simp; done) | (simp [*]; done)), (by first | rfl | (simp; done) | (simp [*]; done)), H', ⟨Nat.le_refl _⟩, by repeat (first | exact Drawn0.refl _ | apply Drawn0.step)⟩
        case round =>
          clear H'
          try clear q1
          try clear c2
          try clear p2
          try clear q2
          try clear hx2
          try clear c3
          try clear c3b0
          try clear c4
          try clear c4b0
          try clear c5
          try clear c5b0
          try clear c6
          try clear c6b0
          try clear c6b1
          try clear p6
          try clear c8
          try clear c8b0
          try clear c8b1
          try clear c9
          try clear c9b0
          try clear c9b1
          try clear q10
          try clear q11
          try clear q12
          try clear hx271_0
          try clear hx271_1
          try clear hx271_2
          try clear hx277_0
          try clear hx277_1
          try clear hx277_2
          try clear hx278_0
          try clear hx278_1
          try clear hx278_2
          try clear p2
          try clear p271
          try clear p277
          try clear p278
          try clear q10
          try clear q11
          try clear q12
          try clear q271
          try clear q277
          try clear q278
          obtain ⟨x8_2, x9_2, rfl, rfl, HA, HK2, ⟨m2, rfl⟩⟩ := hrel
          cases gk with
          | zero => exact absurd HA.out (by simp [cavilref04_Back.l1])
          | succ k2 =>
            have H := HA.out
            clear HA
            simp only [cavilref04_Back.l1] at H
            by_cases c13 : x9_2 < (l0.length : Int)
            · rw [if_pos c13] at H
              have c13b0 : decide (x9_2 < (l0.length : Int)) = true := decide_eq_true c13
              clear c13
              by_cases c14 : 0 ≤ x9_2
              · rw [if_pos c14] at H
                have c14b0 : decide (0 ≤ x9_2) = true := decide_eq_true c14
                clear c14
                have c15b0 := eq_true (of_decide_eq_true (by first | (with_reducible assumption) | assumption) : 0 ≤ x9_2)
                by_cases c16 : x9_2 ≤ (l0.length : Int)
                · rw [if_pos c16] at H
                  have c16b0 := eq_true c16
                  have c16b1 : decide (x9_2 ≤ (l0.length : Int)) = true := decide_eq_true c16
                  clear c16
                  obtain ⟨y280, hy280⟩ : ∃ y_ : List (S64), y_ = (l0.take (x9_2 : Int).toNat) := ⟨_, rfl⟩
                  replace H : ((cavilref04_Grow.f k2 y280).bind fun t284 => (if (wrap64 ((wrap64 (((rd_T64 l0 x9_2).f0) + t284)) + (((rd_T64 l0 x9_2).f2).size : Int))) ≤ a1 then (if x9_2 ≤ (wrap64 (x9_2 + 1)) then (if (wrap64 (x9_2 + 1)) ≤ (l0.length : Int) then ((cavilref04_Grow.f k2 ((l0.take ((wrap64 (x9_2 + 1)) : Int).toNat).drop (x9_2 : Int).toNat)).bind fun t290 => (cavilref04_Back.l1 k2 l0 a1 (wrap64 (x8_2 - t290)) (wrap64 (x9_2 + 1)))) else (none)) else (none)) else (cavilref04_Back.l1 k2 l0 a1 x8_2 (wrap64 (x9_2 + 1))))) = some (r1, r2) := by first | (rw [hy280]; with_reducible exact H) | (have H2_ := (Option.bind_some _ _).symm.trans H; rw [hy280]; with_reducible exact H2_) | (have H2_ := (Option.bind_some _ _).symm.trans H; with_reducible exact H2_) | with_reducible exact H | (rw [hy280]; exact H) | exact H
                  have Ny280 := Aside0.mk hy280
                  clear hy280
                  replace H := Option.bind_eq_some_iff.mp H
                  obtain ⟨t284, A170, H⟩ := H
                  replace H : (if (wrap64 ((wrap64 (((rd_T64 l0 x9_2).f0) + t284)) + (((rd_T64 l0 x9_2).f2).size : Int))) ≤ a1 then (if x9_2 ≤ (wrap64 (x9_2 + 1)) then (if (wrap64 (x9_2 + 1)) ≤ (l0.length : Int) then ((cavilref04_Grow.f k2 ((l0.take ((wrap64 (x9_2 + 1)) : Int).toNat).drop (x9_2 : Int).toNat)).bind fun t290 => (cavilref04_Back.l1 k2 l0 a1 (wrap64 (x8_2 - t290)) (wrap64 (x9_2 + 1)))) else (none)) else (none)) else (cavilref04_Back.l1 k2 l0 a1 x8_2 (wrap64 (x9_2 + 1)))) = some (r1, r2) := H
                  have A17 := Aside0.mk A170
                  clear A170
                  by_cases c18 : (wrap64 ((wrap64 (((rd_T64 l0 x9_2).f0) + t284)) + (((rd_T64 l0 x9_2).f2).size : Int))) ≤ a1
                  · rw [if_pos c18] at H
                    have c18b0 : decide ((wrap64 ((wrap64 (((rd_T64 l0 x9_2).f0) + t284)) + (((rd_T64 l0 x9_2).f2).size : Int))) ≤ a1) = true := decide_eq_true c18
                    (try (have c18b1 : decide ((IntKind.i64.wrap ((IntKind.i64.wrap (((rd_T64 l0 x9_2).f0) + t284)) + (((rd_T64 l0 x9_2).f2).size : Int))) ≤ a1) = true := by simp only [i64_w]; exact decide_eq_true c18))
                    clear c18
                    have c19b0 := eq_true (of_decide_eq_true (by first | (with_reducible assumption) | assumption) : 0 ≤ x9_2)
                    by_cases c20 : x9_2 ≤ (wrap64 (x9_2 + 1))
                    · rw [if_pos c20] at H
                      have c20b0 := eq_true c20
                      have c20b1 : decide (x9_2 ≤ (wrap64 (x9_2 + 1))) = true := decide_eq_true c20
                      by_cases c21 : (wrap64 (x9_2 + 1)) ≤ (l0.length : Int)
                      · rw [if_pos c21] at H
                        have c21b0 := eq_true c21
                        have c21b1 : decide ((wrap64 (x9_2 + 1)) ≤ (l0.length : Int)) = true := decide_eq_true c21
                        obtain ⟨y286, hy286⟩ : ∃ y_ : List (S64), y_ = ((l0.take ((wrap64 (x9_2 + 1)) : Int).toNat).drop (x9_2 : Int).toNat) := ⟨_, rfl⟩
                        replace H : ((cavilref04_Grow.f k2 y286).bind fun t290 => (cavilref04_Back.l1 k2 l0 a1 (wrap64 (x8_2 - t290)) (wrap64 (x9_2 + 1)))) = some (r1, r2) := by first | (rw [hy286]; with_reducible exact H) | (have H2_ := (Option.bind_some _ _).symm.trans H; rw [hy286]; with_reducible exact H2_) | (have H2_ := (Option.bind_some _ _).symm.trans H; with_reducible exact H2_) | with_reducible exact H | (rw [hy286]; exact H) | exact H
                        have Ny286 := Aside0.mk hy286
                        clear hy286
                        replace H := Option.bind_eq_some_iff.mp H
                        obtain ⟨t290, A220, H⟩ := H
                        replace H : (cavilref04_Back.l1 k2 l0 a1 (wrap64 (x8_2 - t290)) (wrap64 (x9_2 + 1))) = some (r1, r2) := H
                        have A22 := Aside0.mk A220
                        clear A220
                        have H' := Aside0.mk H
                        clear H
                        have p279 : 0 ≤ (x9_2 : Int) := of_decide_eq_true (by first | (with_reducible assumption) | assumption)
                        have q279 : x9_2 < (l0.length : Int) := of_decide_eq_true (by first | (with_reducible assumption) | assumption)
                        obtain ⟨ad279, e279, hx279_0, hx279_1, hx279_2⟩ := at_T64 HR0.out x9_2 p279 q279
                        cases e279
                        replace p279 := eq_true p279
                        replace q279 := eq_true q279
                        have q23 : (x9_2 : Int) ≤ ((l0.length : Int) : Int) := of_decide_eq_true (by first | (with_reducible assumption) | assumption)
                        obtain ⟨i023, hi023, _, hsz23, _⟩ := info_parts info64
                        have hroom23 : l0.length ≤ c0 := HC0.out
                        have hC23 : Kd.C k64 _ (some ad279) l0.length l0 := HR0.out
                        have hcut23 := cut_to (P := Try.prog) 55 64 .i64 Try.underlying55 hi023 (some ad279) l0.length c0 x9_2 (of_decide_eq_true (by first | (with_reducible assumption) | assumption)) q23 hroom23
                        have hr23 := Kd.C_take (m := (x9_2 : Int).toNat) hC23 (by omega)
                        have hy23 : y280.length = (x9_2 : Int).toNat := (by rw [Ny280.out, List.length_take]; omega)
                        rw [← Ny280.out] at hr23
                        rw [← hy23] at hcut23
                        have HR283 := Aside0.mk hr23
                        have HC283 := Aside0.mk (show y280.length ≤ c0 from by omega)
                        clear hr23 hC23 hroom23 hi023 hsz23
                        have KY23 := Aside0.mk hy23
                        clear hy23
                        replace q23 := eq_true q23
                        go_wp2_with (first | (go_at_call 28; (with_reducible refine (cavilref04_Grow.calls k2 _ _ y280 t284 _ ?side1 ?side2 A17.out).mono ?_); (case side1 => repeat (first | exact HR283.out | (with_reducible refine Kd.C_alloc ?_ _) | (with_reducible refine Kd.C_drewN ?_ _) | (with_reducible refine Kd.C_drew ?_))); (case side2 => exact HC283.out); rintro e w' ⟨rfl, ⟨nd, rfl⟩⟩; (try first | exact ⟨rfl, _, World.drewN_drewN _ _ _⟩ | exact ⟨rfl, _, Eq.trans (World.drewN_drewN _ _ _) (congrArg (World.drewN _) (Nat.add_assoc _ _ _))⟩); have p285 : 0 ≤ (x9_2 : Int) := of_decide_eq_true (by first | (with_reducible assumption) | assumption); have q285 : x9_2 < (l0.length : Int) := of_decide_eq_true (by first | (with_reducible assumption) | assumption); obtain ⟨ad285, e285, hx285_0, hx285_1, hx285_2⟩ := at_T64 HR0.out x9_2 p285 q285; obtain rfl : ad279 = ad285 := (by injection e285); replace p285 := eq_true p285; replace q285 := eq_true q285; have q24 : ((wrap64 (x9_2 + 1)) : Int) ≤ ((l0.length : Int) : Int) := of_decide_eq_true (by first | (with_reducible assumption) | assumption); obtain ⟨i024, hi024, _, hsz24, _⟩ := info_parts info64; have hroom24 : l0.length ≤ c0 := HC0.out; have hC24 : Kd.C k64 _ (some ad279) l0.length l0 := HR0.out; have ql24 : (x9_2 : Int) ≤ ((wrap64 (x9_2 + 1)) : Int) := of_decide_eq_true (by first | (with_reducible assumption) | assumption); have q024 : (0 : Int) ≤ (x9_2 : Int) := of_decide_eq_true (by first | (with_reducible assumption) | assumption); have hcut24 := cut_mid (P := Try.prog) 55 64 .i64 .i64 Try.underlying55 hi024 3 hsz24 (some ad279) l0.length c0 x9_2 (wrap64 (x9_2 + 1)) q024 ql24 q24 hroom24; have hr24 := Kd.C_mid (lo := (x9_2 : Int).toNat) (hi := ((wrap64 (x9_2 + 1)) : Int).toNat) (c := c0) hC24 (by omega) (by omega) hroom24; obtain ⟨A24, hA24⟩ : ∃ A1, A1 = (if c0 = (x9_2 : Int).toNat then (some ad279) else ((some ad279) : Option Addr).map (·.add ((x9_2 : Int).toNat * 3))) := ⟨_, rfl⟩; obtain ⟨c24, hc24⟩ : ∃ c1, c1 = c0 - (x9_2 : Int).toNat := ⟨_, rfl⟩; have hy24 : y286.length = ((wrap64 (x9_2 + 1)) : Int).toNat - (x9_2 : Int).toNat := (by rw [Ny286.out, List.length_drop, List.length_take] <;> omega); rw [show ((l0).take ((wrap64 (x9_2 + 1)) : Int).toNat).drop (x9_2 : Int).toNat = y286 from Ny286.out.symm] at hr24; replace hr24 : Kd.C k64 _ A24 y286.length y286 := (by rw [hA24]; exact hr24); rw [← hy24, ← hA24, ← hc24] at hcut24; have HR289 := Aside0.mk hr24; have HC289 := Aside0.mk (show y286.length ≤ c24 from by rw [hy24, hc24]; exact Nat.sub_le_sub_right (Nat.le_trans (by omega) hroom24) _); clear hr24 hC24 hroom24 hi024 hsz24 hc24; have KY24 := Aside0.mk hy24; have KA24 := Aside0.mk hA24; clear hy24 hA24; replace q24 := eq_true q24) | (go_at_call 28; (with_reducible refine (cavilref04_Grow.calls k2 _ _ y286 t290 _ ?side1 ?side2 A22.out).mono ?_); (case side1 => repeat (first | exact HR289.out | (with_reducible refine Kd.C_alloc ?_ _) | (with_reducible refine Kd.C_drewN ?_ _) | (with_reducible refine Kd.C_drew ?_))); (case side2 => exact HC289.out); rintro e w' ⟨rfl, ⟨nd, rfl⟩⟩; (try first | exact ⟨rfl, _, World.drewN_drewN _ _ _⟩ | exact ⟨rfl, _, Eq.trans (World.drewN_drewN _ _ _) (congrArg (World.drewN _) (Nat.add_assoc _ _ _))⟩)))
                        repeat (go_quiet (first | (go_at_call 28; (with_reducible refine (cavilref04_Grow.calls k2 _ _ y280 t284 _ ?side1 ?side2 A17.out).mono ?_); (case side1 => repeat (first | exact HR283.out | (with_reducible refine Kd.C_alloc ?_ _) | (with_reducible refine Kd.C_drewN ?_ _) | (with_reducible refine Kd.C_drew ?_))); (case side2 => exact HC283.out); rintro e w' ⟨rfl, ⟨nd, rfl⟩⟩; (try first | exact ⟨rfl, _, World.drewN_drewN _ _ _⟩ | exact ⟨rfl, _, Eq.trans (World.drewN_drewN _ _ _) (congrArg (World.drewN _) (Nat.add_assoc _ _ _))⟩); have p285 : 0 ≤ (x9_2 : Int) := of_decide_eq_true (by first | (with_reducible assumption) | assumption); have q285 : x9_2 < (l0.length : Int) := of_decide_eq_true (by first | (with_reducible assumption) | assumption); obtain ⟨ad285, e285, hx285_0, hx285_1, hx285_2⟩ := at_T64 HR0.out x9_2 p285 q285; obtain rfl : ad279 = ad285 := (by injection e285); replace p285 := eq_true p285; replace q285 := eq_true q285; have q24 : ((wrap64 (x9_2 + 1)) : Int) ≤ ((l0.length : Int) : Int) := of_decide_eq_true (by first | (with_reducible assumption) | assumption); obtain ⟨i024, hi024, _, hsz24, _⟩ := info_parts info64; have hroom24 : l0.length ≤ c0 := HC0.out; have hC24 : Kd.C k64 _ (some ad279) l0.length l0 := HR0.out; have ql24 : (x9_2 : Int) ≤ ((wrap64 (x9_2 + 1)) : Int) := of_decide_eq_true (by first | (with_reducible assumption) | assumption); have q024 : (0 : Int) ≤ (x9_2 : Int) := of_decide_eq_true (by first | (with_reducible assumption) | assumption); have hcut24 := cut_mid (P := Try.prog) 55 64 .i64 .i64 Try.underlying55 hi024 3 hsz24 (some ad279) l0.length c0 x9_2 (wrap64 (x9_2 + 1)) q024 ql24 q24 hroom24; have hr24 := Kd.C_mid (lo := (x9_2 : Int).toNat) (hi := ((wrap64 (x9_2 + 1)) : Int).toNat) (c := c0) hC24 (by omega) (by omega) hroom24; obtain ⟨A24, hA24⟩ : ∃ A1, A1 = (if c0 = (x9_2 : Int).toNat then (some ad279) else ((some ad279) : Option Addr).map (·.add ((x9_2 : Int).toNat * 3))) := ⟨_, rfl⟩; obtain ⟨c24, hc24⟩ : ∃ c1, c1 = c0 - (x9_2 : Int).toNat := ⟨_, rfl⟩; have hy24 : y286.length = ((wrap64 (x9_2 + 1)) : Int).toNat - (x9_2 : Int).toNat := (by rw [Ny286.out, List.length_drop, List.length_take] <;> omega); rw [show ((l0).take ((wrap64 (x9_2 + 1)) : Int).toNat).drop (x9_2 : Int).toNat = y286 from Ny286.out.symm] at hr24; replace hr24 : Kd.C k64 _ A24 y286.length y286 := (by rw [hA24]; exact hr24); rw [← hy24, ← hA24, ← hc24] at hcut24; have HR289 := Aside0.mk hr24; have HC289 := Aside0.mk (show y286.length ≤ c24 from by rw [hy24, hc24]; exact Nat.sub_le_sub_right (Nat.le_trans (by omega) hroom24) _); clear hr24 hC24 hroom24 hi024 hsz24 hc24; have KY24 := Aside0.mk hy24; have KA24 := Aside0.mk hA24; clear hy24 hA24; replace q24 := eq_true q24) | (go_at_call 28; (with_reducible refine (cavilref04_Grow.calls k2 _ _ y286 t290 _ ?side1 ?side2 A22.out).mono ?_); (case side1 => repeat (first | exact HR289.out | (with_reducible refine Kd.C_alloc ?_ _) | (with_reducible refine Kd.C_drewN ?_ _) | (with_reducible refine Kd.C_drew ?_))); (case side2 => exact HC289.out); rintro e w' ⟨rfl, ⟨nd, rfl⟩⟩; (try first | exact ⟨rfl, _, World.drewN_drewN _ _ _⟩ | exact ⟨rfl, _, Eq.trans (World.drewN_drewN _ _ _) (congrArg (World.drewN _) (Nat.add_assoc _ _ _))⟩))); try go_wp2_with (first | (go_at_call 28; (with_reducible refine (cavilref04_Grow.calls k2 _ _ y280 t284 _ ?side1 ?side2 A17.out).mono ?_); (case side1 => repeat (first | exact HR283.out | (with_reducible refine Kd.C_alloc ?_ _) | (with_reducible refine Kd.C_drewN ?_ _) | (with_reducible refine Kd.C_drew ?_))); (case side2 => exact HC283.out); rintro e w' ⟨rfl, ⟨nd, rfl⟩⟩; (try first | exact ⟨rfl, _, World.drewN_drewN _ _ _⟩ | exact ⟨rfl, _, Eq.trans (World.drewN_drewN _ _ _) (congrArg (World.drewN _) (Nat.add_assoc _ _ _))⟩); have p285 : 0 ≤ (x9_2 : Int) := of_decide_eq_true (by first | (with_reducible assumption) | assumption); have q285 : x9_2 < (l0.length : Int) := of_decide_eq_true (by first | (with_reducible assumption) | assumption); obtain ⟨ad285, e285, hx285_0, hx285_1, hx285_2⟩ := at_T64 HR0.out x9_2 p285 q285; obtain rfl : ad279 = ad285 := (by injection e285); replace p285 := eq_true p285; replace q285 := eq_true q285; have q24 : ((wrap64 (x9_2 + 1)) : Int) ≤ ((l0.length : Int) : Int) := of_decide_eq_true (by first | (with_reducible assumption) | assumption); obtain ⟨i024, hi024, _, hsz24, _⟩ := info_parts info64; have hroom24 : l0.length ≤ c0 := HC0.out; have hC24 : Kd.C k64 _ (some ad279) l0.length l0 := HR0.out; have ql24 : (x9_2 : Int) ≤ ((wrap64 (x9_2 + 1)) : Int) := of_decide_eq_true (by first | (with_reducible assumption) | assumption); have q024 : (0 : Int) ≤ (x9_2 : Int) := of_decide_eq_true (by first | (with_reducible assumption) | assumption); have hcut24 := cut_mid (P := Try.prog) 55 64 .i64 .i64 Try.underlying55 hi024 3 hsz24 (some ad279) l0.length c0 x9_2 (wrap64 (x9_2 + 1)) q024 ql24 q24 hroom24; have hr24 := Kd.C_mid (lo := (x9_2 : Int).toNat) (hi := ((wrap64 (x9_2 + 1)) : Int).toNat) (c := c0) hC24 (by omega) (by omega) hroom24; obtain ⟨A24, hA24⟩ : ∃ A1, A1 = (if c0 = (x9_2 : Int).toNat then (some ad279) else ((some ad279) : Option Addr).map (·.add ((x9_2 : Int).toNat * 3))) := ⟨_, rfl⟩; obtain ⟨c24, hc24⟩ : ∃ c1, c1 = c0 - (x9_2 : Int).toNat := ⟨_, rfl⟩; have hy24 : y286.length = ((wrap64 (x9_2 + 1)) : Int).toNat - (x9_2 : Int).toNat := (by rw [Ny286.out, List.length_drop, List.length_take] <;> omega); rw [show ((l0).take ((wrap64 (x9_2 + 1)) : Int).toNat).drop (x9_2 : Int).toNat = y286 from Ny286.out.symm] at hr24; replace hr24 : Kd.C k64 _ A24 y286.length y286 := (by rw [hA24]; exact hr24); rw [← hy24, ← hA24, ← hc24] at hcut24; have HR289 := Aside0.mk hr24; have HC289 := Aside0.mk (show y286.length ≤ c24 from by rw [hy24, hc24]; exact Nat.sub_le_sub_right (Nat.le_trans (by omega) hroom24) _); clear hr24 hC24 hroom24 hi024 hsz24 hc24; have KY24 := Aside0.mk hy24; have KA24 := Aside0.mk hA24; clear hy24 hA24; replace q24 := eq_true q24) | (go_at_call 28; (with_reducible refine (cavilref04_Grow.calls k2 _ _ y286 t290 _ ?side1 ?side2 A22.out).mono ?_); (case side1 => repeat (first | exact HR289.out | (with_reducible refine Kd.C_alloc ?_ _) | (with_reducible refine Kd.C_drewN ?_ _) | (with_reducible refine Kd.C_drew ?_))); (case side2 => exact HC289.out); rintro e w' ⟨rfl, ⟨nd, rfl⟩⟩; (try first | exact ⟨rfl, _, World.drewN_drewN _ _ _⟩ | exact ⟨rfl, _, Eq.trans (World.drewN_drewN _ _ _) (congrArg (World.drewN _) (Nat.add_assoc _ _ _))⟩))))
                        go_roundg k2
                        case measure => have := HK1.out; have := HK2.out; omega
                        case rel => exact ⟨(wrap64 (x8_2 - t290)), (wrap64 (x9_2 + 1)), (by first | rfl | (simp; done) | (simp [*]; done)), (by first | rfl | (simp; done) | (simp [*]; done)), H', ⟨by have := HK1.out; have := HK2.out; omega⟩, by repeat (first | exact Drawn0.refl _ | apply Drawn0.step)⟩
                      · rw [if_neg c21] at H
                        exact absurd H (by simp)
                    · rw [if_neg c20] at H
                      exact absurd H (by simp)
                  · rw [if_neg c18] at H
                    have c18b0 : decide ((wrap64 ((wrap64 (((rd_T64 l0 x9_2).f0) + t284)) + (((rd_T64 l0 x9_2).f2).size : Int))) ≤ a1) = false := decide_eq_false c18
                    (try (have c18b1 : decide ((IntKind.i64.wrap ((IntKind.i64.wrap (((rd_T64 l0 x9_2).f0) + t284)) + (((rd_T64 l0 x9_2).f2).size : Int))) ≤ a1) = false := by simp only [i64_w]; exact decide_eq_false c18))
                    clear c18
                    have H' := Aside0.mk H
                    clear H
                    have p279 : 0 ≤ (x9_2 : Int) := of_decide_eq_true (by first | (with_reducible assumption) | assumption)
                    have q279 : x9_2 < (l0.length : Int) := of_decide_eq_true (by first | (with_reducible assumption) | assumption)
                    obtain ⟨ad279, e279, hx279_0, hx279_1, hx279_2⟩ := at_T64 HR0.out x9_2 p279 q279
                    cases e279
                    replace p279 := eq_true p279
                    replace q279 := eq_true q279
                    have q25 : (x9_2 : Int) ≤ ((l0.length : Int) : Int) := of_decide_eq_true (by first | (with_reducible assumption) | assumption)
                    obtain ⟨i025, hi025, _, hsz25, _⟩ := info_parts info64
                    have hroom25 : l0.length ≤ c0 := HC0.out
                    have hC25 : Kd.C k64 _ (some ad279) l0.length l0 := HR0.out
                    have hcut25 := cut_to (P := Try.prog) 55 64 .i64 Try.underlying55 hi025 (some ad279) l0.length c0 x9_2 (of_decide_eq_true (by first | (with_reducible assumption) | assumption)) q25 hroom25
                    have hr25 := Kd.C_take (m := (x9_2 : Int).toNat) hC25 (by omega)
                    have hy25 : y280.length = (x9_2 : Int).toNat := (by rw [Ny280.out, List.length_take]; omega)
                    rw [← Ny280.out] at hr25
                    rw [← hy25] at hcut25
                    have HR283 := Aside0.mk hr25
                    have HC283 := Aside0.mk (show y280.length ≤ c0 from by omega)
                    clear hr25 hC25 hroom25 hi025 hsz25
                    have KY25 := Aside0.mk hy25
                    clear hy25
                    replace q25 := eq_true q25
                    go_wp2_with (first | (go_at_call 28; (with_reducible refine (cavilref04_Grow.calls k2 _ _ y280 t284 _ ?side1 ?side2 A17.out).mono ?_); (case side1 => repeat (first | exact HR283.out | (with_reducible refine Kd.C_alloc ?_ _) | (with_reducible refine Kd.C_drewN ?_ _) | (with_reducible refine Kd.C_drew ?_))); (case side2 => exact HC283.out); rintro e w' ⟨rfl, ⟨nd, rfl⟩⟩; (try first | exact ⟨rfl, _, World.drewN_drewN _ _ _⟩ | exact ⟨rfl, _, Eq.trans (World.drewN_drewN _ _ _) (congrArg (World.drewN _) (Nat.add_assoc _ _ _))⟩); have p285 : 0 ≤ (x9_2 : Int) := of_decide_eq_true (by first | (with_reducible assumption) | assumption); have q285 : x9_2 < (l0.length : Int) := of_decide_eq_true (by first | (with_reducible assumption) | assumption); obtain ⟨ad285, e285, hx285_0, hx285_1, hx285_2⟩ := at_T64 HR0.out x9_2 p285 q285; obtain rfl : ad279 = ad285 := (by injection e285); replace p285 := eq_true p285; replace q285 := eq_true q285))
                    repeat (go_quiet (first | (go_at_call 28; (with_reducible refine (cavilref04_Grow.calls k2 _ _ y280 t284 _ ?side1 ?side2 A17.out).mono ?_); (case side1 => repeat (first | exact HR283.out | (with_reducible refine Kd.C_alloc ?_ _) | (with_reducible refine Kd.C_drewN ?_ _) | (with_reducible refine Kd.C_drew ?_))); (case side2 => exact HC283.out); rintro e w' ⟨rfl, ⟨nd, rfl⟩⟩; (try first | exact ⟨rfl, _, World.drewN_drewN _ _ _⟩ | exact ⟨rfl, _, Eq.trans (World.drewN_drewN _ _ _) (congrArg (World.drewN _) (Nat.add_assoc _ _ _))⟩); have p285 : 0 ≤ (x9_2 : Int) := of_decide_eq_true (by first | (with_reducible assumption) | assumption); have q285 : x9_2 < (l0.length : Int) := of_decide_eq_true (by first | (with_reducible assumption) | assumption); obtain ⟨ad285, e285, hx285_0, hx285_1, hx285_2⟩ := at_T64 HR0.out x9_2 p285 q285; obtain rfl : ad279 = ad285 := (by injection e285); replace p285 := eq_true p285; replace q285 := eq_true q285)); try go_wp2_with (first | (go_at_call 28; (with_reducible refine (cavilref04_Grow.calls k2 _ _ y280 t284 _ ?side1 ?side2 A17.out).mono ?_); (case side1 => repeat (first | exact HR283.out | (with_reducible refine Kd.C_alloc ?_ _) | (with_reducible refine Kd.C_drewN ?_ _) | (with_reducible refine Kd.C_drew ?_))); (case side2 => exact HC283.out); rintro e w' ⟨rfl, ⟨nd, rfl⟩⟩; (try first | exact ⟨rfl, _, World.drewN_drewN _ _ _⟩ | exact ⟨rfl, _, Eq.trans (World.drewN_drewN _ _ _) (congrArg (World.drewN _) (Nat.add_assoc _ _ _))⟩); have p285 : 0 ≤ (x9_2 : Int) := of_decide_eq_true (by first | (with_reducible assumption) | assumption); have q285 : x9_2 < (l0.length : Int) := of_decide_eq_true (by first | (with_reducible assumption) | assumption); obtain ⟨ad285, e285, hx285_0, hx285_1, hx285_2⟩ := at_T64 HR0.out x9_2 p285 q285; obtain rfl : ad279 = ad285 := (by injection e285); replace p285 := eq_true p285; replace q285 := eq_true q285)))
                    go_roundg k2
                    case measure => have := HK1.out; have := HK2.out; omega
                    case rel => exact ⟨(x8_2), (wrap64 (x9_2 + 1)), (by first | rfl | (simp; done) | (simp [*]; done)), (by first | rfl | (simp; done) | (simp [*]; done)), H', ⟨by have := HK1.out; have := HK2.out; omega⟩, by repeat (first | exact Drawn0.refl _ | apply Drawn0.step)⟩
                · rw [if_neg c16] at H
                  exact absurd H (by simp)
              · rw [if_neg c14] at H
                exact absurd H (by simp)
            · rw [if_neg c13] at H
              have c13b0 : decide (x9_2 < (l0.length : Int)) = false := decide_eq_false c13
              clear c13
              simp only [Option.some.injEq, Prod.mk.injEq] at H
              obtain ⟨rfl, rfl⟩ := H
              go_wp2
              repeat (go_quiet (fail); try go_wp2)
              go_ret2
              exact ⟨by first | rfl | (simp; done) | (simp [*]; done), by repeat (first | exact Drawn0.refl _ | apply Drawn0.step)⟩

/-! ### utf_Boundary: function 54 -/
def utf_Boundary.f (l0 : List Int) (a1 : Int) : Option (Bool) := if a1 = (l0.length : Int) then (some true) else (if a1 < 0 then (some false) else (if a1 > (l0.length : Int) then (some false) else (if 0 ≤ a1 then (if a1 < (l0.length : Int) then (if ((rd l0 a1) / 64) = 0 then (some true) else (if ((rd l0 a1) / 64) = 1 then (some true) else (if ((rd l0 a1) / 64) = 3 then (some true) else (some false)))) else (none)) else (none))))
set_option maxHeartbeats 8000000 in
set_option maxRecDepth 100000 in
theorem utf_Boundary.calls (A0 : Option Addr) (c0 : Nat) (l0 : List Int) (a1 : Int) (r : Bool) (w : World) (hr0 : Kd.C (Kd.int .u8) w A0 l0.length l0) (hc0 : l0.length ≤ c0) (h : utf_Boundary.f l0 a1 = some r) :
    Calls Try.prog 54 #[.slice A0 l0.length c0, .int .i64 a1] w fun e w' => e = .returned (.bool r) ∧ Drawn0 w w' := by
  have HR0 := Aside0.mk hr0
  have HC0 := Aside0.mk hc0
  clear hr0 hc0
  have H : (if a1 = (l0.length : Int) then (some true) else (if a1 < 0 then (some false) else (if a1 > (l0.length : Int) then (some false) else (if 0 ≤ a1 then (if a1 < (l0.length : Int) then (if ((rd l0 a1) / 64) = 0 then (some true) else (if ((rd l0 a1) / 64) = 1 then (some true) else (if ((rd l0 a1) / 64) = 3 then (some true) else (some false)))) else (none)) else (none))))) = some r := h
  clear h
  by_cases c3 : a1 = (l0.length : Int)
  · rw [if_pos c3] at H
    have c3b0 : (a1 == (l0.length : Int)) = true := beq_iff_eq.mpr c3
    have c3b1 : (a1 != (l0.length : Int)) = false := bne_eq_false_iff_eq.mpr c3
    clear c3
    obtain rfl := Option.some.inj H
    go_enter Try.func54, Try.ntmps54
    go_wp2
    go_ret
    exact ⟨by first | rfl | (simp; done) | (simp [*]; done), by repeat (first | exact Drawn0.refl _ | apply Drawn0.step)⟩
  · rw [if_neg c3] at H
    have c3b0 : (a1 == (l0.length : Int)) = false := beq_eq_false_iff_ne.mpr c3
    have c3b1 : (a1 != (l0.length : Int)) = true := bne_iff_ne.mpr c3
    by_cases c4 : a1 < 0
    · rw [if_pos c4] at H
      have c4b0 : decide (a1 < 0) = true := decide_eq_true c4
      clear c4
      obtain rfl := Option.some.inj H
      go_enter Try.func54, Try.ntmps54
      go_wp2
      go_ret
      exact ⟨by first | rfl | (simp; done) | (simp [*]; done), by repeat (first | exact Drawn0.refl _ | apply Drawn0.step)⟩
    · rw [if_neg c4] at H
      have c4b0 : decide (a1 < 0) = false := decide_eq_false c4
      clear c4
      by_cases c5 : a1 > (l0.length : Int)
      · rw [if_pos c5] at H
        have c5b0 : decide ((l0.length : Int) < a1) = true := decide_eq_true c5
        clear c5
        obtain rfl := Option.some.inj H
        go_enter Try.func54, Try.ntmps54
        go_wp2
        go_ret
        exact ⟨by first | rfl | (simp; done) | (simp [*]; done), by repeat (first | exact Drawn0.refl _ | apply Drawn0.step)⟩
      · rw [if_neg c5] at H
        have c5b0 : decide ((l0.length : Int) < a1) = false := decide_eq_false c5
        clear c5
        by_cases c6 : 0 ≤ a1
        · rw [if_pos c6] at H
          have c6b0 : decide (0 ≤ a1) = true := decide_eq_true c6
          clear c6
          by_cases c7 : a1 < (l0.length : Int)
          · rw [if_pos c7] at H
            have c7b0 : decide (a1 < (l0.length : Int)) = true := decide_eq_true c7
            clear c7
            by_cases c8 : ((rd l0 a1) / 64) = 0
            · rw [if_pos c8] at H
              have c8b0 : (((rd l0 a1) / 64) == 0) = true := beq_iff_eq.mpr c8
              have c8b1 : (((rd l0 a1) / 64) != 0) = false := bne_eq_false_iff_eq.mpr c8
              clear c8
              obtain rfl := Option.some.inj H
              have p291 : 0 ≤ (a1 : Int) := of_decide_eq_true (by first | (with_reducible assumption) | assumption)
              have q291 : a1 < (l0.length : Int) := of_decide_eq_true (by first | (with_reducible assumption) | assumption)
              obtain ⟨ad291, e291, hx291_0⟩ := Kd.at_int HR0.out a1 p291 q291
              cases e291
              replace p291 := eq_true p291
              replace q291 := eq_true q291
              go_enter Try.func54, Try.ntmps54
              go_wp2
              go_ret
              exact ⟨by first | rfl | (simp; done) | (simp [*]; done), by repeat (first | exact Drawn0.refl _ | apply Drawn0.step)⟩
            · rw [if_neg c8] at H
              have c8b0 : (((rd l0 a1) / 64) == 0) = false := beq_eq_false_iff_ne.mpr c8
              have c8b1 : (((rd l0 a1) / 64) != 0) = true := bne_iff_ne.mpr c8
              by_cases c9 : ((rd l0 a1) / 64) = 1
              · rw [if_pos c9] at H
                have c9b0 : (((rd l0 a1) / 64) == 1) = true := beq_iff_eq.mpr c9
                have c9b1 : (((rd l0 a1) / 64) != 1) = false := bne_eq_false_iff_eq.mpr c9
                clear c9
                obtain rfl := Option.some.inj H
                have p291 : 0 ≤ (a1 : Int) := of_decide_eq_true (by first | (with_reducible assumption) | assumption)
                have q291 : a1 < (l0.length : Int) := of_decide_eq_true (by first | (with_reducible assumption) | assumption)
                obtain ⟨ad291, e291, hx291_0⟩ := Kd.at_int HR0.out a1 p291 q291
                cases e291
                replace p291 := eq_true p291
                replace q291 := eq_true q291
                go_enter Try.func54, Try.ntmps54
                go_wp2
                go_ret
                exact ⟨by first | rfl | (simp; done) | (simp [*]; done), by repeat (first | exact Drawn0.refl _ | apply Drawn0.step)⟩
              · rw [if_neg c9] at H
                have c9b0 : (((rd l0 a1) / 64) == 1) = false := beq_eq_false_iff_ne.mpr c9
                have c9b1 : (((rd l0 a1) / 64) != 1) = true := bne_iff_ne.mpr c9
                by_cases c10 : ((rd l0 a1) / 64) = 3
                · rw [if_pos c10] at H
                  have c10b0 : (((rd l0 a1) / 64) == 3) = true := beq_iff_eq.mpr c10
                  have c10b1 : (((rd l0 a1) / 64) != 3) = false := bne_eq_false_iff_eq.mpr c10
                  clear c10
                  obtain rfl := Option.some.inj H
                  have p291 : 0 ≤ (a1 : Int) := of_decide_eq_true (by first | (with_reducible assumption) | assumption)
                  have q291 : a1 < (l0.length : Int) := of_decide_eq_true (by first | (with_reducible assumption) | assumption)
                  obtain ⟨ad291, e291, hx291_0⟩ := Kd.at_int HR0.out a1 p291 q291
                  cases e291
                  replace p291 := eq_true p291
                  replace q291 := eq_true q291
                  go_enter Try.func54, Try.ntmps54
                  go_wp2
                  go_ret
                  exact ⟨by first | rfl | (simp; done) | (simp [*]; done), by repeat (first | exact Drawn0.refl _ | apply Drawn0.step)⟩
                · rw [if_neg c10] at H
                  have c10b0 : (((rd l0 a1) / 64) == 3) = false := beq_eq_false_iff_ne.mpr c10
                  have c10b1 : (((rd l0 a1) / 64) != 3) = true := bne_iff_ne.mpr c10
                  obtain rfl := Option.some.inj H
                  have p291 : 0 ≤ (a1 : Int) := of_decide_eq_true (by first | (with_reducible assumption) | assumption)
                  have q291 : a1 < (l0.length : Int) := of_decide_eq_true (by first | (with_reducible assumption) | assumption)
                  obtain ⟨ad291, e291, hx291_0⟩ := Kd.at_int HR0.out a1 p291 q291
                  cases e291
                  replace p291 := eq_true p291
                  replace q291 := eq_true q291
                  go_enter Try.func54, Try.ntmps54
                  go_wp2
                  go_ret
                  exact ⟨by first | rfl | (simp; done) | (simp [*]; done), by repeat (first | exact Drawn0.refl _ | apply Drawn0.step)⟩
          · rw [if_neg c7] at H
            exact absurd H (by simp)
        · rw [if_neg c6] at H
          exact absurd H (by simp)

end Go.Proofs.Ytnpgadfoohjlnaa.QA
