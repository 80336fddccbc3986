/- Where a Lean function of this text answers, the Go function of its name comes to that answer: no other condition. Written by a program of this session out of the translation; Lean checks it. -/
import Derived.Test.YtnpgadfoohjlnaaQB0
import Derived.Test.YtnpgadfoohjlnaaQB1
namespace Go.Proofs.Ytnpgadfoohjlnaa.QB
open Go.RowKit Go.Proofs.YtnpgadfoohjlnaaW.PrintWords Go.Proofs.YtnpgadfoohjlnaaW.PrintLast Go.Proofs.YtnpgadfoohjlnaaW.PrintMore Go.Proofs.YtnpgadfoohjlnaaW.PrintX
attribute [local go_sem] max2_int min2_int max_two min_two max_three min_three max_four min_four   -- for this text's walks alone
set_option linter.unusedVariables false
set_option linter.unusedSimpArgs false

/-! ### edit_Map: function 23 -/
mutual
def edit_Map.l0 : Nat → List (S64) → Int → Int → List (S64) → Int → Int → Option (Int × Bool)
  | 0, _, _, _, _, _, _ => none
  | k + 1, x0, x1, x6, x9, x10, x11 => if x11 < x10 then (if 0 ≤ x11 then (if x11 < (x9.length : Int) then (if ((rd_T64 x9 x11).f0) ≤ x1 then (edit_Map.j1 k x0 x1 x6 x11 x9 x10 x11 (decide (x1 < ((rd_T64 x9 x11).f1))) ((rd_T64 x9 x11).f0) ((rd_T64 x9 x11).f1) ((rd_T64 x9 x11).f2)) else (edit_Map.j1 k x0 x1 x6 x11 x9 x10 x11 false ((rd_T64 x9 x11).f0) ((rd_T64 x9 x11).f1) ((rd_T64 x9 x11).f2))) else (none)) else (none)) else (some (wrap64 (x1 + x6), true))
def edit_Map.j1 : Nat → List (S64) → Int → Int → Int → List (S64) → Int → Int → Bool → Int → Int → ByteArray → Option (Int × Bool)
  | 0, _, _, _, _, _, _, _, _, _, _, _ => none
  | k + 1, x0, x1, x6, x7, x9, x10, x11, x25, x114000, x114001, x114002 => if x25 = true then (if 0 ≤ x7 then (if x7 ≤ (x0.length : Int) then ((edit_Grow.f k (x0.take (x7 : Int).toNat)).bind fun t118 => (some (wrap64 (x114000 + t118), false))) else (none)) else (none)) else (if x114001 ≤ x1 then ((edit_more.f x114000 x114001 x114002).bind fun t119 => (edit_Map.l0 k x0 x1 (wrap64 (x6 + t119)) x9 x10 (wrap64 (x11 + 1)))) else (edit_Map.l0 k x0 x1 x6 x9 x10 (wrap64 (x11 + 1))))
end
def edit_Map.f (k : Nat) (l0 : List (S64)) (a1 : Int) : Option (Int × Bool) := edit_Map.l0 k l0 a1 0 l0 (l0.length : Int) 0
theorem edit_Map.mono_l : ∀ k, (∀ y0 y1 y2 y3 y4 y5, LeO (edit_Map.l0 k y0 y1 y2 y3 y4 y5) (edit_Map.l0 (k + 1) y0 y1 y2 y3 y4 y5)) ∧ (∀ y0 y1 y2 y3 y4 y5 y6 y7 y8 y9 y10, LeO (edit_Map.j1 k y0 y1 y2 y3 y4 y5 y6 y7 y8 y9 y10) (edit_Map.j1 (k + 1) y0 y1 y2 y3 y4 y5 y6 y7 y8 y9 y10))
  | 0 => ⟨fun _ _ _ _ _ _ r h => by simp [edit_Map.l0] at h, fun _ _ _ _ _ _ _ _ _ _ _ r h => by simp [edit_Map.j1] at h⟩
  | k + 1 => by
    obtain ⟨ih0, ih1⟩ := edit_Map.mono_l k
    refine ⟨?_, ?_⟩
    · intro y0 y1 y2 y3 y4 y5
      unfold edit_Map.l0
      repeat' first
      | (with_reducible exact ih0 _ _ _ _ _ _)
      | (with_reducible exact ih1 _ _ _ _ _ _ _ _ _ _ _)
      | (with_reducible exact edit_Grow.mono _ _)
      | (with_reducible exact LeO.refl _)
      | (with_reducible exact LeO.none _)
      | (with_reducible refine LeO.ite ?_ ?_)
      | (with_reducible refine LeO.bind ?_ (fun _ => ?_))
      | exact ih0 _ _ _ _ _ _
      | exact ih1 _ _ _ _ _ _ _ _ _ _ _
      | exact edit_Grow.mono _ _
      | exact LeO.none _
      | refine LeO.ite ?_ ?_
      | refine LeO.bind ?_ (fun _ => ?_)
    · intro y0 y1 y2 y3 y4 y5 y6 y7 y8 y9 y10
      unfold edit_Map.j1
      repeat' first
      | (with_reducible exact ih0 _ _ _ _ _ _)
      | (with_reducible exact ih1 _ _ _ _ _ _ _ _ _ _ _)
      | (with_reducible exact edit_Grow.mono _ _)
      | (with_reducible exact LeO.refl _)
      | (with_reducible exact LeO.none _)
      | (with_reducible refine LeO.ite ?_ ?_)
      | (with_reducible refine LeO.bind ?_ (fun _ => ?_))
      | exact ih0 _ _ _ _ _ _
      | exact ih1 _ _ _ _ _ _ _ _ _ _ _
      | exact edit_Grow.mono _ _
      | exact LeO.none _
      | refine LeO.ite ?_ ?_
      | refine LeO.bind ?_ (fun _ => ?_)
theorem edit_Map.mono : ∀ a0 a1 k, LeO (edit_Map.f k a0 a1) (edit_Map.f (k + 1) a0 a1) := by
  intro a0 a1 k
  obtain ⟨ih0, ih1⟩ := edit_Map.mono_l k
  unfold edit_Map.f
  repeat' first
      | (with_reducible exact ih0 _ _ _ _ _ _)
      | (with_reducible exact ih1 _ _ _ _ _ _ _ _ _ _ _)
      | (with_reducible exact edit_Grow.mono _ _)
      | (with_reducible exact LeO.refl _)
      | (with_reducible exact LeO.none _)
      | (with_reducible refine LeO.ite ?_ ?_)
      | (with_reducible refine LeO.bind ?_ (fun _ => ?_))
      | exact ih0 _ _ _ _ _ _
      | exact ih1 _ _ _ _ _ _ _ _ _ _ _
      | exact edit_Grow.mono _ _
      | exact LeO.none _
      | refine LeO.ite ?_ ?_
      | refine LeO.bind ?_ (fun _ => ?_)
def edit_Map.T6 : Bool × List (List Nat × List Nat) := (true, [([], []), ([0], [0]), ([], []), ([], []), ([2, 3], [2, 3]), ([4], [4]), ([1, 5], [1, 5]), ([6, 5, 0, 1, 2, 3, 4, 5, 6], [6]), ([7, 0, 1, 2, 3, 4, 5, 6, 7], [])])
def edit_Map.B6 : List Nat := [0, 1, 0, 0, 12, 28, 63, 127, 255]
theorem edit_Map.tab6 : rtab .any (opsOf Try.f23 6) = edit_Map.T6 := by kernel_rfl
theorem edit_Map.bits6 : waitsOk edit_Map.T6.2 edit_Map.B6 = true := by kernel_rfl
set_option maxHeartbeats 8000000 in
set_option maxRecDepth 100000 in
theorem edit_Map.calls (k : Nat) (A0 : Option Addr) (c0 : Nat) (l0 : List (S64)) (a1 : Int) (r1 : Int) (r2 : Bool) (w : World) (hr0 : Kd.C k64 w A0 l0.length l0) (hc0 : l0.length ≤ c0) (h : edit_Map.f k l0 a1 = some (r1, r2)) :
    Calls Try.prog 23 #[.slice A0 l0.length c0, .int .i64 a1] w fun e w' => e = .returned (.tuple #[.int .i64 r1, .bool r2]) ∧ Below w.heap.size w w' := by
  have hu64 := Try.underlying64
  have HR0 := Aside0.mk hr0
  have HC0 := Aside0.mk hc0
  clear hr0 hc0
  have HB := Aside0.mk (Below.refl w.heap.size w)
  have H : (edit_Map.l0 k l0 a1 0 l0 (l0.length : Int) 0) = some (r1, r2) := h
  clear h
  have H' := Aside0.mk H
  clear H
  go_enter Try.func23, Try.ntmps23
  go_wp2
  go_loopg [6, 11] k (fun kq v6 v11 w' => ∃ (x6_1 : Int) (x11_1 : Int), v6 = .int .i64 x6_1 ∧ v11 = .int .i64 x11_1 ∧ Aside0 (edit_Map.l0 kq l0 a1 x6_1 l0 (l0.length : Int) x11_1 = some (r1, r2)) ∧ Aside0 (kq ≤ k) ∧ Aside0 (Below w.heap.size w w'))
  case atStart => exact ⟨(0), (0), (by first | rfl | (simp; done) | (simp [*]; done)), (by first | rfl | (simp; done) | (simp [*]; done)), H', ⟨Nat.le_refl _⟩, ⟨by repeat (first | (with_reducible first | exact HB.out | apply below_alloc | apply pw_below_drewN | apply below_drew1) | exact HB.out)⟩⟩
  case round =>
    clear H'
    try clear c2
    try clear p2
    obtain ⟨x6_1, x11_1, rfl, rfl, HA, HK1, HB⟩ := hrel
    cases gk with
    | zero => exact absurd HA.out (by simp [edit_Map.l0])
    | succ k1 =>
      have H := HA.out
      clear HA
      simp only [edit_Map.l0] at H
      by_cases c3 : x11_1 < (l0.length : Int)
      · rw [if_pos c3] at H
        have c3b0 : decide (x11_1 < (l0.length : Int)) = true := decide_eq_true c3
        clear c3
        by_cases c4 : 0 ≤ x11_1
        · rw [if_pos c4] at H
          have c4b0 : decide (0 ≤ x11_1) = true := decide_eq_true c4
          clear c4
          by_cases c5 : x11_1 < (l0.length : Int)
          · rw [if_pos c5] at H
            have c5b0 : decide (x11_1 < (l0.length : Int)) = true := decide_eq_true c5
            clear c5
            have HC6 := Aside0.mk H
            clear H
            have p112 : 0 ≤ (x11_1 : Int) := of_decide_eq_true (by first | (with_reducible assumption) | assumption)
            have q112 : x11_1 < (l0.length : Int) := of_decide_eq_true (by first | (with_reducible assumption) | assumption)
            obtain ⟨ad112, e112, hx112_0, hx112_1, hx112_2⟩ := at_T64 HR0.out x11_1 p112 q112
            cases e112
            replace hx112_0 := (HB.out.cell (World.block_lt_of_cell? w _ hx112_0)).trans hx112_0
            replace hx112_1 := (HB.out.cell (World.block_lt_of_cell? w _ hx112_1)).trans hx112_1
            replace hx112_2 := (HB.out.cell (World.block_lt_of_cell? w _ hx112_2)).trans hx112_2
            replace p112 := eq_true p112
            replace q112 := eq_true q112
            go_upto_region 5 with (first | ((with_reducible refine gate_dst (N := 8) rfl ?_); refine box_event ?hg (N := 8) ?hd (cs := #[.int .i64 0, .int .i64 0, .string (⟨#[]⟩ : ByteArray)]) (t := 64) ?hr ?_; (case hd => rfl); (case hg => rfl); (case hr => first | (go_simp; done) | (go_simp; rfl)); intro gb113 hg w7 hbox hb; have n0_ := Aside0.mk (below_step (by repeat (first | (with_reducible first | exact HB.out | apply below_alloc | apply pw_below_drewN | apply below_drew1) | exact HB.out)) hb); have n1_ := Aside0.mk (hbox); have n2_ := Aside0.mk ((by rw [hg]; exact (below_size (by repeat (first | (with_reducible first | exact HB.out | apply below_alloc | apply pw_below_drewN | apply below_drew1) | exact HB.out))) : w.heap.size ≤ gb113)); have n3_ := Aside0.mk ((by rw [hg]; exact (below_size (by repeat (first | (with_reducible first | exact HB.out | apply below_alloc | apply pw_below_drewN | apply below_drew1) | exact HB.out))) : w.heap.size ≤ gb113)); clear HB; have HB := n0_; have BK113 := n1_; have GW113 := n2_; have GE113 := n3_; clear n0_ n1_ n2_ n3_; clear hb hbox hg; have hcz8_0 : w7.cell? ⟨gb113, 0, none⟩ = some (.int .i64 0) := (blk_cell BK113.out 0).trans rfl; have hcz8_1 : w7.cell? ⟨gb113, 1, none⟩ = some (.int .i64 0) := (blk_cell BK113.out 1).trans rfl; have hcz8_2 : w7.cell? ⟨gb113, 2, none⟩ = some (.string (⟨#[]⟩ : ByteArray)) := (blk_cell BK113.out 2).trans rfl; have hfz8_0 := blk_frozen BK113.out 0; have hfz8_1 := blk_frozen BK113.out 1; have hfz8_2 := blk_frozen BK113.out 2))
            (try simp only [Act.put, List.setIfInBounds_toArray, List.set_cons_zero, List.set_cons_succ])
            go_cut [25] (fun v25 wc => ∃ (kq : Nat) (x25_5 : Bool), v25 = .bool x25_5 ∧ Aside0 (edit_Map.j1 kq l0 a1 x6_1 x11_1 l0 (l0.length : Int) x11_1 x25_5 ((rd_T64 l0 x11_1).f0) ((rd_T64 l0 x11_1).f1) ((rd_T64 l0 x11_1).f2) = some (r1, r2)) ∧ Aside0 (kq ≤ k1) ∧ Aside0 (wc.heap[gb113]? = some (.cells #[.int .i64 ((rd_T64 l0 x11_1).f0), .int .i64 ((rd_T64 l0 x11_1).f1), .string ((rd_T64 l0 x11_1).f2)] 64 (0, 0))) ∧ Aside0 (Below w.heap.size w wc))
            case first =>
              have H := HC6.out
              clear HC6
              by_cases c9 : ((rd_T64 l0 x11_1).f0) ≤ a1
              · rw [if_pos c9] at H
                have c9b0 : decide (((rd_T64 l0 x11_1).f0) ≤ a1) = true := decide_eq_true c9
                clear c9
                (first | rw [c9b0] | (simp only [i64_w, i32_w]; rw [c9b0]) | skip)
                have H' := Aside0.mk H
                clear H
                have hcz10_0 : w7.cell? ⟨gb113, 0, none⟩ = some (.int .i64 0) := (blk_cell BK113.out 0).trans rfl
                have hcz10_1 : w7.cell? ⟨gb113, 1, none⟩ = some (.int .i64 0) := (blk_cell BK113.out 1).trans rfl
                have hcz10_2 : w7.cell? ⟨gb113, 2, none⟩ = some (.string (⟨#[]⟩ : ByteArray)) := (blk_cell BK113.out 2).trans rfl
                have hfz10_0 := blk_frozen BK113.out 0
                have hfz10_1 := blk_frozen BK113.out 1
                have hfz10_2 := blk_frozen BK113.out 2
                go_wp2
                go_meet
                case rel => exact ⟨_, (decide (a1 < ((rd_T64 l0 x11_1).f1))), (by first | rfl | (simp; done) | (simp [*]; done)), H', ⟨by have := HK1.out; first | omega | exact Nat.le_refl _⟩, ⟨by (with_reducible repeat (first | refine blk_drewN ?_ _ | refine blk_drew ?_ | refine blk_alloc ?_ _)); refine blk_put (cs := #[.int .i64 ((rd_T64 l0 x11_1).f0), .int .i64 ((rd_T64 l0 x11_1).f1), .string (⟨#[]⟩ : ByteArray)]) ?_ 2 _ rfl; (with_reducible repeat (first | refine blk_drewN ?_ _ | refine blk_drew ?_ | refine blk_alloc ?_ _)); refine blk_put (cs := #[.int .i64 ((rd_T64 l0 x11_1).f0), .int .i64 0, .string (⟨#[]⟩ : ByteArray)]) ?_ 1 _ rfl; (with_reducible repeat (first | refine blk_drewN ?_ _ | refine blk_drew ?_ | refine blk_alloc ?_ _)); refine blk_put (cs := #[.int .i64 0, .int .i64 0, .string (⟨#[]⟩ : ByteArray)]) ?_ 0 _ rfl; (with_reducible repeat (first | refine blk_drewN ?_ _ | refine blk_drew ?_ | refine blk_alloc ?_ _)); exact BK113.out⟩, ⟨by repeat (first | (with_reducible first | exact HB.out | apply below_alloc | apply pw_below_drewN | apply below_drew1 | refine below_set ?_ GE113.out) | exact HB.out)⟩⟩
              · rw [if_neg c9] at H
                have c9b0 : decide (((rd_T64 l0 x11_1).f0) ≤ a1) = false := decide_eq_false c9
                clear c9
                (first | rw [c9b0] | (simp only [i64_w, i32_w]; rw [c9b0]) | skip)
                have H' := Aside0.mk H
                clear H
                have hcz11_0 : w7.cell? ⟨gb113, 0, none⟩ = some (.int .i64 0) := (blk_cell BK113.out 0).trans rfl
                have hcz11_1 : w7.cell? ⟨gb113, 1, none⟩ = some (.int .i64 0) := (blk_cell BK113.out 1).trans rfl
                have hcz11_2 : w7.cell? ⟨gb113, 2, none⟩ = some (.string (⟨#[]⟩ : ByteArray)) := (blk_cell BK113.out 2).trans rfl
                have hfz11_0 := blk_frozen BK113.out 0
                have hfz11_1 := blk_frozen BK113.out 1
                have hfz11_2 := blk_frozen BK113.out 2
                go_wp2
                go_meet
                case rel => exact ⟨_, (false), (by first | rfl | (simp; done) | (simp [*]; done)), H', ⟨by have := HK1.out; first | omega | exact Nat.le_refl _⟩, ⟨by (with_reducible repeat (first | refine blk_drewN ?_ _ | refine blk_drew ?_ | refine blk_alloc ?_ _)); refine blk_put (cs := #[.int .i64 ((rd_T64 l0 x11_1).f0), .int .i64 ((rd_T64 l0 x11_1).f1), .string (⟨#[]⟩ : ByteArray)]) ?_ 2 _ rfl; (with_reducible repeat (first | refine blk_drewN ?_ _ | refine blk_drew ?_ | refine blk_alloc ?_ _)); refine blk_put (cs := #[.int .i64 ((rd_T64 l0 x11_1).f0), .int .i64 0, .string (⟨#[]⟩ : ByteArray)]) ?_ 1 _ rfl; (with_reducible repeat (first | refine blk_drewN ?_ _ | refine blk_drew ?_ | refine blk_alloc ?_ _)); refine blk_put (cs := #[.int .i64 0, .int .i64 0, .string (⟨#[]⟩ : ByteArray)]) ?_ 0 _ rfl; (with_reducible repeat (first | refine blk_drewN ?_ _ | refine blk_drew ?_ | refine blk_alloc ?_ _)); exact BK113.out⟩, ⟨by repeat (first | (with_reducible first | exact HB.out | apply below_alloc | apply pw_below_drewN | apply below_drew1 | refine below_set ?_ GE113.out) | exact HB.out)⟩⟩
            case rest =>
              clear HC6
              try clear p1
              try clear q1
              try clear hx1
              try clear c2
              try clear p2
              try clear c3
              try clear c3b0
              try clear c4
              try clear c4b0
              try clear c5
              try clear c5b0
              try clear c9
              try clear c9b0
              try clear p11
              try clear q11
              try clear hx11
              try clear hcz10_0
              try clear hcz10_1
              try clear hcz10_2
              try clear hcz11_0
              try clear hcz11_1
              try clear hcz11_2
              try clear hcz8_0
              try clear hcz8_1
              try clear hcz8_2
              try clear hfz10_0
              try clear hfz10_1
              try clear hfz10_2
              try clear hfz11_0
              try clear hfz11_1
              try clear hfz11_2
              try clear hfz8_0
              try clear hfz8_1
              try clear hfz8_2
              try clear hx112_0
              try clear hx112_1
              try clear hx112_2
              try clear p112
              try clear p2
              try clear q112
              obtain ⟨kq, x25_5, rfl, HA, HJ5, BK113, HB⟩ := hcut
              cases kq with
              | zero => exact absurd HA.out (by simp [edit_Map.j1])
              | succ kj5 =>
                have H := HA.out
                clear HA
                simp only [edit_Map.j1] at H
                by_cases c12 : x25_5 = true
                · subst c12
                  have H1 : (if 0 ≤ x11_1 then (if x11_1 ≤ (l0.length : Int) then ((edit_Grow.f kj5 (l0.take (x11_1 : Int).toNat)).bind fun t118 => (some (wrap64 (((rd_T64 l0 x11_1).f0) + t118), false))) else (none)) else (none)) = some (r1, r2) := by rw [if_pos rfl] at H; exact H
                  clear H
                  have H := H1
                  clear H1
                  by_cases c13 : 0 ≤ x11_1
                  · rw [if_pos c13] at H
                    have c13b0 := eq_true c13
                    have c13b1 : decide (0 ≤ x11_1) = true := decide_eq_true c13
                    clear c13
                    by_cases c14 : x11_1 ≤ (l0.length : Int)
                    · rw [if_pos c14] at H
                      have c14b0 := eq_true c14
                      have c14b1 : decide (x11_1 ≤ (l0.length : Int)) = true := decide_eq_true c14
                      clear c14
                      obtain ⟨y114, hy114⟩ : ∃ y_ : List (S64), y_ = (l0.take (x11_1 : Int).toNat) := ⟨_, rfl⟩
                      replace H : ((edit_Grow.f kj5 y114).bind fun t118 => (some (wrap64 (((rd_T64 l0 x11_1).f0) + t118), false))) = some (r1, r2) := by first | (rw [hy114]; with_reducible exact H) | (have H2_ := (Option.bind_some _ _).symm.trans H; rw [hy114]; with_reducible exact H2_) | (have H2_ := (Option.bind_some _ _).symm.trans H; with_reducible exact H2_) | with_reducible exact H | (rw [hy114]; exact H) | exact H
                      have Ny114 := Aside0.mk hy114
                      clear hy114
                      replace H := Option.bind_eq_some_iff.mp H
                      obtain ⟨t118, A150, H⟩ := H
                      replace H : (some (wrap64 (((rd_T64 l0 x11_1).f0) + t118), false)) = some (r1, r2) := H
                      have A15 := Aside0.mk A150
                      clear A150
                      simp only [Option.some.injEq, Prod.mk.injEq] at H
                      obtain ⟨rfl, rfl⟩ := H
                      try go_wp2
                      have n0_ := Aside0.mk (blk_drew BK113.out)
                      have n1_ := Aside0.mk (below_drew1 HB.out)
                      clear BK113
                      clear HB
                      have BK113 := n0_
                      have HB := n1_
                      clear n0_ n1_
                      have q17 : (x11_1 : Int) ≤ ((l0.length : Int) : Int) := of_decide_eq_true (by first | (with_reducible assumption) | assumption)
                      obtain ⟨i017, hi017, _, hsz17, _⟩ := info_parts info64
                      have hroom17 : l0.length ≤ c0 := HC0.out
                      have hC17 : Kd.C k64 _ (some ad112) l0.length l0 := HR0.out
                      have hcut17 := cut_to (P := Try.prog) 55 64 .i64 Try.underlying55 hi017 (some ad112) l0.length c0 x11_1 (of_decide_eq_true (by first | (with_reducible assumption) | assumption)) q17 hroom17
                      have hr17 := Kd.C_take (m := (x11_1 : Int).toNat) hC17 (by omega)
                      have hy17 : y114.length = (x11_1 : Int).toNat := (by rw [Ny114.out, List.length_take]; omega)
                      rw [← Ny114.out] at hr17
                      rw [← hy17] at hcut17
                      have HR117 := Aside0.mk hr17
                      have HC117 := Aside0.mk (show y114.length ≤ c0 from by omega)
                      clear hr17 hC17 hroom17 hi017 hsz17
                      have KY17 := Aside0.mk hy17
                      clear hy17
                      replace q17 := eq_true q17
                      refine start_ (n := 9) (S := fun w' => w'.cell? ⟨gb113, 0, none⟩ = some (.int .i64 ((rd_T64 l0 x11_1).f0)) ∧ w'.cell? ⟨gb113, 1, none⟩ = some (.int .i64 ((rd_T64 l0 x11_1).f1)) ∧ w'.cell? ⟨gb113, 2, none⟩ = some (.string ((rd_T64 l0 x11_1).f2))) (ds := []) #[false, false, false, false, false, false, false, false, false] (by kernel_rfl) rfl rfl ⟨(blk_cell BK113.out 0).trans rfl, (blk_cell BK113.out 1).trans rfl, (blk_cell BK113.out 2).trans rfl⟩ (fun hHeld => ?_); refine with_tabW edit_Map.tab6 edit_Map.bits6 (fun HT_ HW_ => ?_)
                      generalize wc.drew = w16 at BK113 HB HR117 hHeld ⊢
                      refine pure_ (i := 0) (N := some 26) (v := ?_) (a' := ?_) #[true, false, false, false, false, false, false, false, false] rfl rfl (any_of HT_.out (by kernel_rfl)) (fun _ _ _ h => h) (Or.inl ⟨by rfl, ?_⟩) ?_ ?_
                      rotate_left
                      · intro w'
                        go_simp
                        with_reducible rfl
                      rotate_left
                      · simp only [Act.put, List.setIfInBounds_toArray, List.set_cons_zero, List.set_cons_succ, i64_w, i32_w]
                        rfl
                      refine pure_ (i := 2) (N := some 28) (v := ?_) (a' := ?_) #[true, false, true, false, false, false, false, false, false] rfl rfl (any_of HT_.out (by kernel_rfl)) (fun _ _ _ h => h) (Or.inl ⟨by rfl, ?_⟩) ?_ ?_
                      rotate_left
                      · intro w'
                        go_simp
                        with_reducible rfl
                      rotate_left
                      · simp only [Act.put, List.setIfInBounds_toArray, List.set_cons_zero, List.set_cons_succ, i64_w, i32_w]
                        rfl
                      refine pure_ (i := 3) (N := some 29) (v := ?_) (a' := ?_) #[true, false, true, true, false, false, false, false, false] rfl rfl (any_of HT_.out (by kernel_rfl)) (fun _ _ _ h => h) (Or.inl ⟨by rfl, ?_⟩) ?_ ?_
                      rotate_left
                      · intro w'
                        go_simp
                        with_reducible rfl
                      rotate_left
                      · simp only [Act.put, List.setIfInBounds_toArray, List.set_cons_zero, List.set_cons_succ, i64_w, i32_w]
                        rfl
                      refine pure_ (i := 4) (N := some 30) (v := ?_) (a' := ?_) #[true, false, true, true, true, false, false, false, false] rfl rfl (any_of HT_.out (by kernel_rfl)) (fun _ _ _ h => h) (Or.inl ⟨by rfl, ?_⟩) ?_ ?_
                      rotate_left
                      · intro w'
                        go_simp
                        with_reducible rfl
                      rotate_left
                      · simp only [Act.put, List.setIfInBounds_toArray, List.set_cons_zero, List.set_cons_succ, i64_w, i32_w]
                        rfl
                      refine take_ (i := 1) (N := some 27) (v := ?_) (a' := ?_) #[true, true, true, true, true, false, false, false, false] rfl rfl (take_ofW HT_.out HW_.out (by kernel_rfl)) (fun _ _ _ h => h) (Or.inl ⟨by rfl, ?_⟩) hHeld ?_ ?_
                      rotate_left
                      · rintro w' ⟨s0, s1, s2⟩
                        go_simp
                        with_reducible rfl
                      rotate_left
                      · simp only [Act.put, List.setIfInBounds_toArray, List.set_cons_zero, List.set_cons_succ, i64_w, i32_w]
                        rfl
                      refine one_ (i := 5) (N := some 31) #[true, true, true, true, true, true, false, false, false] rfl rfl (one_of HT_.out (by kernel_rfl)) (by decide) (fun K hK => ?_)
                      refine goes_ Try.func27 (by kernel_rfl) rfl #[.slice (some ad112) y114.length c0] (by rfl) rfl rfl (by (try simp only [List.map_toArray, List.map_cons, List.map_nil]); first | done | rfl | (simp only [List.length_drop, List.length_take]; rfl)) ?_
                      with_reducible refine (edit_Grow.calls kj5 _ _ y114 t118 _ ?side1 ?side2 A15.out).mono ?_
                      (case side1 => repeat (first | exact (Kd.C_below HR117.out HB.out) | (with_reducible refine Kd.C_alloc ?_ _) | (with_reducible refine Kd.C_drewN ?_ _) | (with_reducible refine Kd.C_drew ?_)))
                      (case side2 => exact HC117.out)
                      rintro e w18 ⟨rfl, hb⟩
                      refine ⟨_, rfl, ?_⟩
                      have n0_ := Aside0.mk (blk_below (g := gb113) (o := .cells #[.int .i64 ((rd_T64 l0 x11_1).f0), .int .i64 ((rd_T64 l0 x11_1).f1), .string ((rd_T64 l0 x11_1).f2)] 64 (0, 0)) (by (with_reducible repeat (first | refine blk_drewN ?_ _ | refine blk_drew ?_ | refine blk_alloc ?_ _)); exact BK113.out) hb)
                      have n1_ := Aside0.mk (below_step (by repeat (first | (with_reducible first | exact HB.out | apply below_alloc | apply pw_below_drewN | apply below_drew1 | refine below_set ?_ GE113.out) | exact HB.out)) hb)
                      clear BK113
                      clear HB
                      have BK113 := n0_
                      have HB := n1_
                      clear n0_ n1_
                      (try clear hb)
                      (try clear hb2)
                      (try clear hk)
                      (try clear hi)
                      refine hK.out _ _ ⟨(blk_cell BK113.out 0).trans rfl, (blk_cell BK113.out 1).trans rfl, (blk_cell BK113.out 2).trans rfl⟩ (fun hHeld => ?_)
                      clear hK K
                      refine norm_ (a' := ?_) ?_ ?_
                      rotate_left
                      · show Act.put _ (some 31) _ = _
                        simp only [Act.put, List.setIfInBounds_toArray, List.set_cons_zero, List.set_cons_succ, i64_w, i32_w]
                        rfl
                      refine pure_ (i := 6) (N := some 32) (v := ?_) (a' := ?_) #[true, true, true, true, true, true, true, false, false] rfl rfl (any_of HT_.out (by kernel_rfl)) (fun _ _ _ h => h) (Or.inl ⟨by rfl, ?_⟩) ?_ ?_
                      rotate_left
                      · intro w'
                        go_simp
                        with_reducible rfl
                      rotate_left
                      · simp only [Act.put, List.setIfInBounds_toArray, List.set_cons_zero, List.set_cons_succ, i64_w, i32_w]
                        rfl
                      refine pure_ (i := 7) (N := some 4) (v := ?_) (a' := ?_) #[true, true, true, true, true, true, true, true, false] rfl rfl (any_of HT_.out (by kernel_rfl)) (fun _ _ _ h => h) (Or.inl ⟨by rfl, ?_⟩) ?_ ?_
                      rotate_left
                      · intro w'
                        go_simp
                        with_reducible rfl
                      rotate_left
                      · simp only [Act.put, List.setIfInBounds_toArray, List.set_cons_zero, List.set_cons_succ, i64_w, i32_w]
                        rfl
                      refine pure_ (i := 8) (N := some 5) (v := ?_) (a' := ?_) #[true, true, true, true, true, true, true, true, true] rfl rfl (any_of HT_.out (by kernel_rfl)) (fun _ _ _ h => h) (Or.inl ⟨by rfl, ?_⟩) ?_ ?_
                      rotate_left
                      · intro w'
                        go_simp
                        with_reducible rfl
                      rotate_left
                      · simp only [Act.put, List.setIfInBounds_toArray, List.set_cons_zero, List.set_cons_succ, i64_w, i32_w]
                        rfl
                      refine done_ (done_of HT_.out (by kernel_rfl)) ?_
                      try go_wp2
                      go_ret2
                      exact ⟨by first | rfl | (simp [errW_none, errW_some, erT_no, erV_no, erT_at, erV_at] <;> rfl) | (simp [*, errW_none, errW_some, erT_no, erV_no, erT_at, erV_at] <;> rfl), by repeat (first | (with_reducible first | exact HB.out | apply below_alloc | apply pw_below_drewN | apply below_drew1 | refine below_set ?_ GE113.out) | exact HB.out)⟩
                    · rw [if_neg c14] at H
                      exact absurd H (by simp)
                  · rw [if_neg c13] at H
                    exact absurd H (by simp)
                · replace c12 := Bool.eq_false_iff.mpr c12
                  subst c12
                  have H1 : (if ((rd_T64 l0 x11_1).f1) ≤ a1 then ((edit_more.f ((rd_T64 l0 x11_1).f0) ((rd_T64 l0 x11_1).f1) ((rd_T64 l0 x11_1).f2)).bind fun t119 => (edit_Map.l0 kj5 l0 a1 (wrap64 (x6_1 + t119)) l0 (l0.length : Int) (wrap64 (x11_1 + 1)))) else (edit_Map.l0 kj5 l0 a1 x6_1 l0 (l0.length : Int) (wrap64 (x11_1 + 1)))) = some (r1, r2) := by rw [if_neg (show ¬ (false = true) by decide)] at H; exact H
                  clear H
                  have H := H1
                  clear H1
                  by_cases c19 : ((rd_T64 l0 x11_1).f1) ≤ a1
                  · rw [if_pos c19] at H
                    have c19b0 : decide (((rd_T64 l0 x11_1).f1) ≤ a1) = true := decide_eq_true c19
                    clear c19
                    replace H := Option.bind_eq_some_iff.mp H
                    obtain ⟨t119, A200, H⟩ := H
                    replace H : (edit_Map.l0 kj5 l0 a1 (wrap64 (x6_1 + t119)) l0 (l0.length : Int) (wrap64 (x11_1 + 1))) = some (r1, r2) := H
                    have A20 := Aside0.mk A200
                    clear A200
                    have H' := Aside0.mk H
                    clear H
                    have hcz21_0 : wc.cell? ⟨gb113, 0, none⟩ = some (.int .i64 ((rd_T64 l0 x11_1).f0)) := (blk_cell BK113.out 0).trans rfl
                    have hcz21_1 : wc.cell? ⟨gb113, 1, none⟩ = some (.int .i64 ((rd_T64 l0 x11_1).f1)) := (blk_cell BK113.out 1).trans rfl
                    have hcz21_2 : wc.cell? ⟨gb113, 2, none⟩ = some (.string ((rd_T64 l0 x11_1).f2)) := (blk_cell BK113.out 2).trans rfl
                    have hfz21_0 := blk_frozen BK113.out 0
                    have hfz21_1 := blk_frozen BK113.out 1
                    have hfz21_2 := blk_frozen BK113.out 2
                    go_wp2_with (first | ((with_reducible refine gate_callee (f := 41) rfl ?_); refine goesL_ (some 39) rfl rfl Try.func41 (by kernel_rfl) rfl #[.agg #[.int .i64 ((rd_T64 l0 x11_1).f0), .int .i64 ((rd_T64 l0 x11_1).f1), .string ((rd_T64 l0 x11_1).f2)]] rfl (by (try simp only [List.map_toArray, List.map_cons, List.map_nil]); first | done | rfl | (simp only [List.length_drop, List.length_take]; rfl)) ?_; (with_reducible refine (edit_more.calls ((rd_T64 l0 x11_1).f0) ((rd_T64 l0 x11_1).f1) ((rd_T64 l0 x11_1).f2) t119 _ A20.out).mono ?_); rintro e w22 ⟨rfl, hb⟩; refine ⟨_, rfl, ?_⟩; have n0_ := Aside0.mk (blk_below (g := gb113) (o := .cells #[.int .i64 ((rd_T64 l0 x11_1).f0), .int .i64 ((rd_T64 l0 x11_1).f1), .string ((rd_T64 l0 x11_1).f2)] 64 (0, 0)) (by (with_reducible repeat (first | refine blk_drewN ?_ _ | refine blk_drew ?_ | refine blk_alloc ?_ _)); exact BK113.out) hb); have n1_ := Aside0.mk (below_step (by repeat (first | (with_reducible first | exact HB.out | apply below_alloc | apply pw_below_drewN | apply below_drew1 | refine below_set ?_ GE113.out) | exact HB.out)) hb); clear BK113; clear HB; have BK113 := n0_; have HB := n1_; clear n0_ n1_; (try clear hb); (try clear hb2); (try clear hk); (try clear hi)))
                    go_roundg kj5
                    case measure => have := HK1.out; have := HJ5.out; omega
                    case rel => exact ⟨(wrap64 (x6_1 + t119)), (wrap64 (x11_1 + 1)), (by first | rfl | (simp; done) | (simp [*]; done)), (by first | rfl | (simp; done) | (simp [*]; done)), H', ⟨by have := HK1.out; have := HJ5.out; omega⟩, ⟨by repeat (first | (with_reducible first | exact HB.out | apply below_alloc | apply pw_below_drewN | apply below_drew1 | refine below_set ?_ GE113.out) | exact HB.out)⟩⟩
                  · rw [if_neg c19] at H
                    have c19b0 : decide (((rd_T64 l0 x11_1).f1) ≤ a1) = false := decide_eq_false c19
                    clear c19
                    have H' := Aside0.mk H
                    clear H
                    have hcz23_0 : wc.cell? ⟨gb113, 0, none⟩ = some (.int .i64 ((rd_T64 l0 x11_1).f0)) := (blk_cell BK113.out 0).trans rfl
                    have hcz23_1 : wc.cell? ⟨gb113, 1, none⟩ = some (.int .i64 ((rd_T64 l0 x11_1).f1)) := (blk_cell BK113.out 1).trans rfl
                    have hcz23_2 : wc.cell? ⟨gb113, 2, none⟩ = some (.string ((rd_T64 l0 x11_1).f2)) := (blk_cell BK113.out 2).trans rfl
                    have hfz23_0 := blk_frozen BK113.out 0
                    have hfz23_1 := blk_frozen BK113.out 1
                    have hfz23_2 := blk_frozen BK113.out 2
                    go_wp2
                    go_roundg kj5
                    case measure => have := HK1.out; have := HJ5.out; omega
                    case rel => exact ⟨(x6_1), (wrap64 (x11_1 + 1)), (by first | rfl | (simp; done) | (simp [*]; done)), (by first | rfl | (simp; done) | (simp [*]; done)), H', ⟨by have := HK1.out; have := HJ5.out; omega⟩, ⟨by repeat (first | (with_reducible first | exact HB.out | apply below_alloc | apply pw_below_drewN | apply below_drew1 | refine below_set ?_ GE113.out) | exact HB.out)⟩⟩
          · rw [if_neg c5] at H
            exact absurd H (by simp)
        · rw [if_neg c4] at H
          exact absurd H (by simp)
      · rw [if_neg c3] at H
        have c3b0 : decide (x11_1 < (l0.length : Int)) = false := decide_eq_false c3
        clear c3
        simp only [Option.some.injEq, Prod.mk.injEq] at H
        obtain ⟨rfl, rfl⟩ := H
        go_wp2
        go_ret2
        exact ⟨by first | rfl | (simp [errW_none, errW_some, erT_no, erV_no, erT_at, erV_at] <;> rfl) | (simp [*, errW_none, errW_some, erT_no, erV_no, erT_at, erV_at] <;> rfl), by repeat (first | (with_reducible first | exact HB.out | apply below_alloc | apply pw_below_drewN | apply below_drew1) | exact HB.out)⟩

/-! ### edit_Back: function 25 -/
mutual
def edit_Back.l0 : Nat → Int → Int → Int → List (S64) → Int → Int → Option (Int × Bool)
  | 0, _, _, _, _, _, _ => none
  | k + 1, x1, x6, x7, x12, x13, x14 => if x14 < x13 then (if 0 ≤ x14 then (if x14 < (x12.length : Int) then (if (wrap64 (((rd_T64 x12 x14).f0) + x7)) ≤ x1 then (edit_Back.j1 k x1 x6 x7 (wrap64 ((wrap64 (((rd_T64 x12 x14).f0) + x7)) + (((rd_T64 x12 x14).f2).size : Int))) x12 x13 x14 (decide (x1 < (wrap64 ((wrap64 (((rd_T64 x12 x14).f0) + x7)) + (((rd_T64 x12 x14).f2).size : Int))))) ((rd_T64 x12 x14).f0) ((rd_T64 x12 x14).f1) ((rd_T64 x12 x14).f2)) else (edit_Back.j1 k x1 x6 x7 (wrap64 ((wrap64 (((rd_T64 x12 x14).f0) + x7)) + (((rd_T64 x12 x14).f2).size : Int))) x12 x13 x14 false ((rd_T64 x12 x14).f0) ((rd_T64 x12 x14).f1) ((rd_T64 x12 x14).f2))) else (none)) else (none)) else (some (wrap64 (x1 - x6), true))
def edit_Back.j1 : Nat → Int → Int → Int → Int → List (S64) → Int → Int → Bool → Int → Int → ByteArray → Option (Int × Bool)
  | 0, _, _, _, _, _, _, _, _, _, _, _ => none
  | k + 1, x1, x6, x7, x11, x12, x13, x14, x34, x122000, x122001, x122002 => if x34 = true then (some (x122000, false)) else (if x11 ≤ x1 then ((edit_more.f x122000 x122001 x122002).bind fun t122 => ((edit_more.f x122000 x122001 x122002).bind fun t123 => (edit_Back.l0 k x1 (wrap64 (x6 + t122)) (wrap64 (x7 + t123)) x12 x13 (wrap64 (x14 + 1))))) else ((edit_more.f x122000 x122001 x122002).bind fun t124 => (edit_Back.l0 k x1 x6 (wrap64 (x7 + t124)) x12 x13 (wrap64 (x14 + 1)))))
end
def edit_Back.f (k : Nat) (l0 : List (S64)) (a1 : Int) : Option (Int × Bool) := edit_Back.l0 k a1 0 0 l0 (l0.length : Int) 0
theorem edit_Back.mono_l : ∀ k, (∀ y0 y1 y2 y3 y4 y5, LeO (edit_Back.l0 k y0 y1 y2 y3 y4 y5) (edit_Back.l0 (k + 1) y0 y1 y2 y3 y4 y5)) ∧ (∀ y0 y1 y2 y3 y4 y5 y6 y7 y8 y9 y10, LeO (edit_Back.j1 k y0 y1 y2 y3 y4 y5 y6 y7 y8 y9 y10) (edit_Back.j1 (k + 1) y0 y1 y2 y3 y4 y5 y6 y7 y8 y9 y10))
  | 0 => ⟨fun _ _ _ _ _ _ r h => by simp [edit_Back.l0] at h, fun _ _ _ _ _ _ _ _ _ _ _ r h => by simp [edit_Back.j1] at h⟩
  | k + 1 => by
    obtain ⟨ih0, ih1⟩ := edit_Back.mono_l k
    refine ⟨?_, ?_⟩
    · intro y0 y1 y2 y3 y4 y5
      unfold edit_Back.l0
      repeat' first
      | (with_reducible exact ih0 _ _ _ _ _ _)
      | (with_reducible exact ih1 _ _ _ _ _ _ _ _ _ _ _)
      | (with_reducible exact LeO.refl _)
      | (with_reducible exact LeO.none _)
      | (with_reducible refine LeO.ite ?_ ?_)
      | (with_reducible refine LeO.bind ?_ (fun _ => ?_))
      | exact ih0 _ _ _ _ _ _
      | exact ih1 _ _ _ _ _ _ _ _ _ _ _
      | exact LeO.none _
      | refine LeO.ite ?_ ?_
      | refine LeO.bind ?_ (fun _ => ?_)
    · intro y0 y1 y2 y3 y4 y5 y6 y7 y8 y9 y10
      unfold edit_Back.j1
      repeat' first
      | (with_reducible exact ih0 _ _ _ _ _ _)
      | (with_reducible exact ih1 _ _ _ _ _ _ _ _ _ _ _)
      | (with_reducible exact LeO.refl _)
      | (with_reducible exact LeO.none _)
      | (with_reducible refine LeO.ite ?_ ?_)
      | (with_reducible refine LeO.bind ?_ (fun _ => ?_))
      | exact ih0 _ _ _ _ _ _
      | exact ih1 _ _ _ _ _ _ _ _ _ _ _
      | exact LeO.none _
      | refine LeO.ite ?_ ?_
      | refine LeO.bind ?_ (fun _ => ?_)
theorem edit_Back.mono : ∀ a0 a1 k, LeO (edit_Back.f k a0 a1) (edit_Back.f (k + 1) a0 a1) := by
  intro a0 a1 k
  obtain ⟨ih0, ih1⟩ := edit_Back.mono_l k
  unfold edit_Back.f
  repeat' first
      | (with_reducible exact ih0 _ _ _ _ _ _)
      | (with_reducible exact ih1 _ _ _ _ _ _ _ _ _ _ _)
      | (with_reducible exact LeO.refl _)
      | (with_reducible exact LeO.none _)
      | (with_reducible refine LeO.ite ?_ ?_)
      | (with_reducible refine LeO.bind ?_ (fun _ => ?_))
      | exact ih0 _ _ _ _ _ _
      | exact ih1 _ _ _ _ _ _ _ _ _ _ _
      | exact LeO.none _
      | refine LeO.ite ?_ ?_
      | refine LeO.bind ?_ (fun _ => ?_)
set_option maxHeartbeats 8000000 in
set_option maxRecDepth 100000 in
theorem edit_Back.calls (k : Nat) (A0 : Option Addr) (c0 : Nat) (l0 : List (S64)) (a1 : Int) (r1 : Int) (r2 : Bool) (w : World) (hr0 : Kd.C k64 w A0 l0.length l0) (hc0 : l0.length ≤ c0) (h : edit_Back.f k l0 a1 = some (r1, r2)) :
    Calls Try.prog 25 #[.slice A0 l0.length c0, .int .i64 a1] w fun e w' => e = .returned (.tuple #[.int .i64 r1, .bool r2]) ∧ Below w.heap.size w w' := by
  have hu64 := Try.underlying64
  have HR0 := Aside0.mk hr0
  have HC0 := Aside0.mk hc0
  clear hr0 hc0
  have HB := Aside0.mk (Below.refl w.heap.size w)
  have H : (edit_Back.l0 k a1 0 0 l0 (l0.length : Int) 0) = some (r1, r2) := h
  clear h
  have H' := Aside0.mk H
  clear H
  go_enter Try.func25, Try.ntmps25
  go_wp2
  go_loopg [6, 7, 14] k (fun kq v6 v7 v14 w' => ∃ (x6_1 : Int) (x7_1 : Int) (x14_1 : Int), v6 = .int .i64 x6_1 ∧ v7 = .int .i64 x7_1 ∧ v14 = .int .i64 x14_1 ∧ Aside0 (edit_Back.l0 kq a1 x6_1 x7_1 l0 (l0.length : Int) x14_1 = some (r1, r2)) ∧ Aside0 (kq ≤ k) ∧ Aside0 (Below w.heap.size w w'))
  case atStart => exact ⟨(0), (0), (0), (by first | rfl | (simp; done) | (simp [*]; done)), (by first | rfl | (simp; done) | (simp [*]; done)), (by first | rfl | (simp; done) | (simp [*]; done)), H', ⟨Nat.le_refl _⟩, ⟨by repeat (first | (with_reducible first | exact HB.out | apply below_alloc | apply pw_below_drewN | apply below_drew1) | exact HB.out)⟩⟩
  case round =>
    clear H'
    try clear c2
    try clear p2
    obtain ⟨x6_1, x7_1, x14_1, rfl, rfl, rfl, HA, HK1, HB⟩ := hrel
    cases gk with
    | zero => exact absurd HA.out (by simp [edit_Back.l0])
    | succ k1 =>
      have H := HA.out
      clear HA
      simp only [edit_Back.l0] at H
      by_cases c3 : x14_1 < (l0.length : Int)
      · rw [if_pos c3] at H
        have c3b0 : decide (x14_1 < (l0.length : Int)) = true := decide_eq_true c3
        clear c3
        by_cases c4 : 0 ≤ x14_1
        · rw [if_pos c4] at H
          have c4b0 : decide (0 ≤ x14_1) = true := decide_eq_true c4
          clear c4
          by_cases c5 : x14_1 < (l0.length : Int)
          · rw [if_pos c5] at H
            have c5b0 : decide (x14_1 < (l0.length : Int)) = true := decide_eq_true c5
            clear c5
            have HC6 := Aside0.mk H
            clear H
            have p120 : 0 ≤ (x14_1 : Int) := of_decide_eq_true (by first | (with_reducible assumption) | assumption)
            have q120 : x14_1 < (l0.length : Int) := of_decide_eq_true (by first | (with_reducible assumption) | assumption)
            obtain ⟨ad120, e120, hx120_0, hx120_1, hx120_2⟩ := at_T64 HR0.out x14_1 p120 q120
            cases e120
            replace hx120_0 := (HB.out.cell (World.block_lt_of_cell? w _ hx120_0)).trans hx120_0
            replace hx120_1 := (HB.out.cell (World.block_lt_of_cell? w _ hx120_1)).trans hx120_1
            replace hx120_2 := (HB.out.cell (World.block_lt_of_cell? w _ hx120_2)).trans hx120_2
            replace p120 := eq_true p120
            replace q120 := eq_true q120
            go_upto_region 7 with (first | ((with_reducible refine gate_dst (N := 9) rfl ?_); refine box_event ?hg (N := 9) ?hd (cs := #[.int .i64 0, .int .i64 0, .string (⟨#[]⟩ : ByteArray)]) (t := 64) ?hr ?_; (case hd => rfl); (case hg => rfl); (case hr => first | (go_simp; done) | (go_simp; rfl)); intro gb121 hg w7 hbox hb; have n0_ := Aside0.mk (below_step (by repeat (first | (with_reducible first | exact HB.out | apply below_alloc | apply pw_below_drewN | apply below_drew1) | exact HB.out)) hb); have n1_ := Aside0.mk (hbox); have n2_ := Aside0.mk ((by rw [hg]; exact (below_size (by repeat (first | (with_reducible first | exact HB.out | apply below_alloc | apply pw_below_drewN | apply below_drew1) | exact HB.out))) : w.heap.size ≤ gb121)); have n3_ := Aside0.mk ((by rw [hg]; exact (below_size (by repeat (first | (with_reducible first | exact HB.out | apply below_alloc | apply pw_below_drewN | apply below_drew1) | exact HB.out))) : w.heap.size ≤ gb121)); clear HB; have HB := n0_; have BK121 := n1_; have GW121 := n2_; have GE121 := n3_; clear n0_ n1_ n2_ n3_; clear hb hbox hg; have hcz8_0 : w7.cell? ⟨gb121, 0, none⟩ = some (.int .i64 0) := (blk_cell BK121.out 0).trans rfl; have hcz8_1 : w7.cell? ⟨gb121, 1, none⟩ = some (.int .i64 0) := (blk_cell BK121.out 1).trans rfl; have hcz8_2 : w7.cell? ⟨gb121, 2, none⟩ = some (.string (⟨#[]⟩ : ByteArray)) := (blk_cell BK121.out 2).trans rfl; have hfz8_0 := blk_frozen BK121.out 0; have hfz8_1 := blk_frozen BK121.out 1; have hfz8_2 := blk_frozen BK121.out 2))
            (try simp only [Act.put, List.setIfInBounds_toArray, List.set_cons_zero, List.set_cons_succ])
            go_cut [34] (fun v34 wc => ∃ (kq : Nat) (x34_5 : Bool), v34 = .bool x34_5 ∧ Aside0 (edit_Back.j1 kq a1 x6_1 x7_1 (wrap64 ((wrap64 (((rd_T64 l0 x14_1).f0) + x7_1)) + (((rd_T64 l0 x14_1).f2).size : Int))) l0 (l0.length : Int) x14_1 x34_5 ((rd_T64 l0 x14_1).f0) ((rd_T64 l0 x14_1).f1) ((rd_T64 l0 x14_1).f2) = some (r1, r2)) ∧ Aside0 (kq ≤ k1) ∧ Aside0 (wc.heap[gb121]? = some (.cells #[.int .i64 ((rd_T64 l0 x14_1).f0), .int .i64 ((rd_T64 l0 x14_1).f1), .string ((rd_T64 l0 x14_1).f2)] 64 (0, 0))) ∧ Aside0 (Below w.heap.size w wc))
            case first =>
              have H := HC6.out
              clear HC6
              by_cases c9 : (wrap64 (((rd_T64 l0 x14_1).f0) + x7_1)) ≤ a1
              · rw [if_pos c9] at H
                have c9b0 : decide ((wrap64 (((rd_T64 l0 x14_1).f0) + x7_1)) ≤ a1) = true := decide_eq_true c9
                (try (have c9b1 : decide ((IntKind.i64.wrap (((rd_T64 l0 x14_1).f0) + x7_1)) ≤ a1) = true := by simp only [i64_w]; exact decide_eq_true c9))
                clear c9
                (first | rw [c9b0] | (simp only [i64_w, i32_w]; rw [c9b0]) | skip)
                have H' := Aside0.mk H
                clear H
                go_wp2
                go_meet
                case rel => exact ⟨_, (decide (a1 < (wrap64 ((wrap64 (((rd_T64 l0 x14_1).f0) + x7_1)) + (((rd_T64 l0 x14_1).f2).size : Int))))), (by first | rfl | (simp; done) | (simp [*]; done)), H', ⟨by have := HK1.out; first | omega | exact Nat.le_refl _⟩, ⟨by (with_reducible repeat (first | refine blk_drewN ?_ _ | refine blk_drew ?_ | refine blk_alloc ?_ _)); refine blk_put (cs := #[.int .i64 ((rd_T64 l0 x14_1).f0), .int .i64 ((rd_T64 l0 x14_1).f1), .string (⟨#[]⟩ : ByteArray)]) ?_ 2 _ rfl; (with_reducible repeat (first | refine blk_drewN ?_ _ | refine blk_drew ?_ | refine blk_alloc ?_ _)); refine blk_put (cs := #[.int .i64 ((rd_T64 l0 x14_1).f0), .int .i64 0, .string (⟨#[]⟩ : ByteArray)]) ?_ 1 _ rfl; (with_reducible repeat (first | refine blk_drewN ?_ _ | refine blk_drew ?_ | refine blk_alloc ?_ _)); refine blk_put (cs := #[.int .i64 0, .int .i64 0, .string (⟨#[]⟩ : ByteArray)]) ?_ 0 _ rfl; (with_reducible repeat (first | refine blk_drewN ?_ _ | refine blk_drew ?_ | refine blk_alloc ?_ _)); exact BK121.out⟩, ⟨by repeat (first | (with_reducible first | exact HB.out | apply below_alloc | apply pw_below_drewN | apply below_drew1 | refine below_set ?_ GE121.out) | exact HB.out)⟩⟩
              · rw [if_neg c9] at H
                have c9b0 : decide ((wrap64 (((rd_T64 l0 x14_1).f0) + x7_1)) ≤ a1) = false := decide_eq_false c9
                (try (have c9b1 : decide ((IntKind.i64.wrap (((rd_T64 l0 x14_1).f0) + x7_1)) ≤ a1) = false := by simp only [i64_w]; exact decide_eq_false c9))
                clear c9
                (first | rw [c9b0] | (simp only [i64_w, i32_w]; rw [c9b0]) | skip)
                have H' := Aside0.mk H
                clear H
                go_wp2
                go_meet
                case rel => exact ⟨_, (false), (by first | rfl | (simp; done) | (simp [*]; done)), H', ⟨by have := HK1.out; first | omega | exact Nat.le_refl _⟩, ⟨by (with_reducible repeat (first | refine blk_drewN ?_ _ | refine blk_drew ?_ | refine blk_alloc ?_ _)); refine blk_put (cs := #[.int .i64 ((rd_T64 l0 x14_1).f0), .int .i64 ((rd_T64 l0 x14_1).f1), .string (⟨#[]⟩ : ByteArray)]) ?_ 2 _ rfl; (with_reducible repeat (first | refine blk_drewN ?_ _ | refine blk_drew ?_ | refine blk_alloc ?_ _)); refine blk_put (cs := #[.int .i64 ((rd_T64 l0 x14_1).f0), .int .i64 0, .string (⟨#[]⟩ : ByteArray)]) ?_ 1 _ rfl; (with_reducible repeat (first | refine blk_drewN ?_ _ | refine blk_drew ?_ | refine blk_alloc ?_ _)); refine blk_put (cs := #[.int .i64 0, .int .i64 0, .string (⟨#[]⟩ : ByteArray)]) ?_ 0 _ rfl; (with_reducible repeat (first | refine blk_drewN ?_ _ | refine blk_drew ?_ | refine blk_alloc ?_ _)); exact BK121.out⟩, ⟨by repeat (first | (with_reducible first | exact HB.out | apply below_alloc | apply pw_below_drewN | apply below_drew1 | refine below_set ?_ GE121.out) | exact HB.out)⟩⟩
            case rest =>
              clear HC6
              try clear p1
              try clear q1
              try clear hx1
              try clear c2
              try clear p2
              try clear c3
              try clear c3b0
              try clear c4
              try clear c4b0
              try clear c5
              try clear c5b0
              try clear p6
              try clear c9
              try clear c9b0
              try clear c9b1
              try clear hcz8_0
              try clear hcz8_1
              try clear hcz8_2
              try clear hfz8_0
              try clear hfz8_1
              try clear hfz8_2
              try clear hx120_0
              try clear hx120_1
              try clear hx120_2
              try clear p120
              try clear p2
              try clear q120
              obtain ⟨kq, x34_5, rfl, HA, HJ5, BK121, HB⟩ := hcut
              cases kq with
              | zero => exact absurd HA.out (by simp [edit_Back.j1])
              | succ kj5 =>
                have H := HA.out
                clear HA
                simp only [edit_Back.j1] at H
                by_cases c10 : x34_5 = true
                · subst c10
                  have H1 : (some (((rd_T64 l0 x14_1).f0), false)) = some (r1, r2) := by rw [if_pos rfl] at H; exact H
                  clear H
                  have H := H1
                  clear H1
                  simp only [Option.some.injEq, Prod.mk.injEq] at H
                  obtain ⟨rfl, rfl⟩ := H
                  have hcz11_0 : wc.cell? ⟨gb121, 0, none⟩ = some (.int .i64 ((rd_T64 l0 x14_1).f0)) := (blk_cell BK121.out 0).trans rfl
                  have hcz11_1 : wc.cell? ⟨gb121, 1, none⟩ = some (.int .i64 ((rd_T64 l0 x14_1).f1)) := (blk_cell BK121.out 1).trans rfl
                  have hcz11_2 : wc.cell? ⟨gb121, 2, none⟩ = some (.string ((rd_T64 l0 x14_1).f2)) := (blk_cell BK121.out 2).trans rfl
                  have hfz11_0 := blk_frozen BK121.out 0
                  have hfz11_1 := blk_frozen BK121.out 1
                  have hfz11_2 := blk_frozen BK121.out 2
                  go_wp2
                  go_ret2
                  exact ⟨by first | rfl | (simp [errW_none, errW_some, erT_no, erV_no, erT_at, erV_at] <;> rfl) | (simp [*, errW_none, errW_some, erT_no, erV_no, erT_at, erV_at] <;> rfl), by repeat (first | (with_reducible first | exact HB.out | apply below_alloc | apply pw_below_drewN | apply below_drew1 | refine below_set ?_ GE121.out) | exact HB.out)⟩
                · replace c10 := Bool.eq_false_iff.mpr c10
                  subst c10
                  have H1 : (if (wrap64 ((wrap64 (((rd_T64 l0 x14_1).f0) + x7_1)) + (((rd_T64 l0 x14_1).f2).size : Int))) ≤ a1 then ((edit_more.f ((rd_T64 l0 x14_1).f0) ((rd_T64 l0 x14_1).f1) ((rd_T64 l0 x14_1).f2)).bind fun t122 => ((edit_more.f ((rd_T64 l0 x14_1).f0) ((rd_T64 l0 x14_1).f1) ((rd_T64 l0 x14_1).f2)).bind fun t123 => (edit_Back.l0 kj5 a1 (wrap64 (x6_1 + t122)) (wrap64 (x7_1 + t123)) l0 (l0.length : Int) (wrap64 (x14_1 + 1))))) else ((edit_more.f ((rd_T64 l0 x14_1).f0) ((rd_T64 l0 x14_1).f1) ((rd_T64 l0 x14_1).f2)).bind fun t124 => (edit_Back.l0 kj5 a1 x6_1 (wrap64 (x7_1 + t124)) l0 (l0.length : Int) (wrap64 (x14_1 + 1))))) = some (r1, r2) := by rw [if_neg (show ¬ (false = true) by decide)] at H; exact H
                  clear H
                  have H := H1
                  clear H1
                  by_cases c12 : (wrap64 ((wrap64 (((rd_T64 l0 x14_1).f0) + x7_1)) + (((rd_T64 l0 x14_1).f2).size : Int))) ≤ a1
                  · rw [if_pos c12] at H
                    have c12b0 : decide ((wrap64 ((wrap64 (((rd_T64 l0 x14_1).f0) + x7_1)) + (((rd_T64 l0 x14_1).f2).size : Int))) ≤ a1) = true := decide_eq_true c12
                    (try (have c12b1 : decide ((IntKind.i64.wrap ((IntKind.i64.wrap (((rd_T64 l0 x14_1).f0) + x7_1)) + (((rd_T64 l0 x14_1).f2).size : Int))) ≤ a1) = true := by simp only [i64_w]; exact decide_eq_true c12))
                    clear c12
                    replace H := Option.bind_eq_some_iff.mp H
                    obtain ⟨t122, A130, H⟩ := H
                    replace H : ((edit_more.f ((rd_T64 l0 x14_1).f0) ((rd_T64 l0 x14_1).f1) ((rd_T64 l0 x14_1).f2)).bind fun t123 => (edit_Back.l0 kj5 a1 (wrap64 (x6_1 + t122)) (wrap64 (x7_1 + t123)) l0 (l0.length : Int) (wrap64 (x14_1 + 1)))) = some (r1, r2) := H
                    have A13 := Aside0.mk A130
                    clear A130
                    replace H := Option.bind_eq_some_iff.mp H
                    obtain ⟨t123, A140, H⟩ := H
                    replace H : (edit_Back.l0 kj5 a1 (wrap64 (x6_1 + t122)) (wrap64 (x7_1 + t123)) l0 (l0.length : Int) (wrap64 (x14_1 + 1))) = some (r1, r2) := H
                    have A14 := Aside0.mk A140
                    clear A140
                    have H' := Aside0.mk H
                    clear H
                    have hcz15_0 : wc.cell? ⟨gb121, 0, none⟩ = some (.int .i64 ((rd_T64 l0 x14_1).f0)) := (blk_cell BK121.out 0).trans rfl
                    have hcz15_1 : wc.cell? ⟨gb121, 1, none⟩ = some (.int .i64 ((rd_T64 l0 x14_1).f1)) := (blk_cell BK121.out 1).trans rfl
                    have hcz15_2 : wc.cell? ⟨gb121, 2, none⟩ = some (.string ((rd_T64 l0 x14_1).f2)) := (blk_cell BK121.out 2).trans rfl
                    have hfz15_0 := blk_frozen BK121.out 0
                    have hfz15_1 := blk_frozen BK121.out 1
                    have hfz15_2 := blk_frozen BK121.out 2
                    go_wp2_with (first | ((with_reducible refine gate_callee (f := 41) rfl ?_); refine goesL_ (some 42) rfl rfl Try.func41 (by kernel_rfl) rfl #[.agg #[.int .i64 ((rd_T64 l0 x14_1).f0), .int .i64 ((rd_T64 l0 x14_1).f1), .string ((rd_T64 l0 x14_1).f2)]] rfl (by (try simp only [List.map_toArray, List.map_cons, List.map_nil]); first | done | rfl | (simp only [List.length_drop, List.length_take]; rfl)) ?_; (with_reducible refine (edit_more.calls ((rd_T64 l0 x14_1).f0) ((rd_T64 l0 x14_1).f1) ((rd_T64 l0 x14_1).f2) t122 _ A13.out).mono ?_); rintro e w16 ⟨rfl, hb⟩; refine ⟨_, rfl, ?_⟩; have n0_ := Aside0.mk (blk_below (g := gb121) (o := .cells #[.int .i64 ((rd_T64 l0 x14_1).f0), .int .i64 ((rd_T64 l0 x14_1).f1), .string ((rd_T64 l0 x14_1).f2)] 64 (0, 0)) (by (with_reducible repeat (first | refine blk_drewN ?_ _ | refine blk_drew ?_ | refine blk_alloc ?_ _)); exact BK121.out) hb); have n1_ := Aside0.mk (below_step (by repeat (first | (with_reducible first | exact HB.out | apply below_alloc | apply pw_below_drewN | apply below_drew1 | refine below_set ?_ GE121.out) | exact HB.out)) hb); clear BK121; clear HB; have BK121 := n0_; have HB := n1_; clear n0_ n1_; (try clear hb); (try clear hb2); (try clear hk); (try clear hi); have hcz17_0 : w16.cell? ⟨gb121, 0, none⟩ = some (.int .i64 ((rd_T64 l0 x14_1).f0)) := (blk_cell BK121.out 0).trans rfl; have hcz17_1 : w16.cell? ⟨gb121, 1, none⟩ = some (.int .i64 ((rd_T64 l0 x14_1).f1)) := (blk_cell BK121.out 1).trans rfl; have hcz17_2 : w16.cell? ⟨gb121, 2, none⟩ = some (.string ((rd_T64 l0 x14_1).f2)) := (blk_cell BK121.out 2).trans rfl; have hfz17_0 := blk_frozen BK121.out 0; have hfz17_1 := blk_frozen BK121.out 1; have hfz17_2 := blk_frozen BK121.out 2) | ((with_reducible refine gate_callee (f := 41) rfl ?_); refine goesL_ (some 46) rfl rfl Try.func41 (by kernel_rfl) rfl #[.agg #[.int .i64 ((rd_T64 l0 x14_1).f0), .int .i64 ((rd_T64 l0 x14_1).f1), .string ((rd_T64 l0 x14_1).f2)]] rfl (by (try simp only [List.map_toArray, List.map_cons, List.map_nil]); first | done | rfl | (simp only [List.length_drop, List.length_take]; rfl)) ?_; (with_reducible refine (edit_more.calls ((rd_T64 l0 x14_1).f0) ((rd_T64 l0 x14_1).f1) ((rd_T64 l0 x14_1).f2) t123 _ A14.out).mono ?_); rintro e w18 ⟨rfl, hb⟩; refine ⟨_, rfl, ?_⟩; have n0_ := Aside0.mk (blk_below (g := gb121) (o := .cells #[.int .i64 ((rd_T64 l0 x14_1).f0), .int .i64 ((rd_T64 l0 x14_1).f1), .string ((rd_T64 l0 x14_1).f2)] 64 (0, 0)) (by (with_reducible repeat (first | refine blk_drewN ?_ _ | refine blk_drew ?_ | refine blk_alloc ?_ _)); exact BK121.out) hb); have n1_ := Aside0.mk (below_step (by repeat (first | (with_reducible first | exact HB.out | apply below_alloc | apply pw_below_drewN | apply below_drew1 | refine below_set ?_ GE121.out) | exact HB.out)) hb); clear BK121; clear HB; have BK121 := n0_; have HB := n1_; clear n0_ n1_; (try clear hb); (try clear hb2); (try clear hk); (try clear hi)))
                    go_roundg kj5
                    case measure => have := HK1.out; have := HJ5.out; omega
                    case rel => exact ⟨(wrap64 (x6_1 + t122)), (wrap64 (x7_1 + t123)), (wrap64 (x14_1 + 1)), (by first | rfl | (simp; done) | (simp [*]; done)), (by first | rfl | (simp; done) | (simp [*]; done)), (by first | rfl | (simp; done) | (simp [*]; done)), H', ⟨by have := HK1.out; have := HJ5.out; omega⟩, ⟨by repeat (first | (with_reducible first | exact HB.out | apply below_alloc | apply pw_below_drewN | apply below_drew1 | refine below_set ?_ GE121.out) | exact HB.out)⟩⟩
                  · rw [if_neg c12] at H
                    have c12b0 : decide ((wrap64 ((wrap64 (((rd_T64 l0 x14_1).f0) + x7_1)) + (((rd_T64 l0 x14_1).f2).size : Int))) ≤ a1) = false := decide_eq_false c12
                    (try (have c12b1 : decide ((IntKind.i64.wrap ((IntKind.i64.wrap (((rd_T64 l0 x14_1).f0) + x7_1)) + (((rd_T64 l0 x14_1).f2).size : Int))) ≤ a1) = false := by simp only [i64_w]; exact decide_eq_false c12))
                    clear c12
                    replace H := Option.bind_eq_some_iff.mp H
                    obtain ⟨t124, A190, H⟩ := H
                    replace H : (edit_Back.l0 kj5 a1 x6_1 (wrap64 (x7_1 + t124)) l0 (l0.length : Int) (wrap64 (x14_1 + 1))) = some (r1, r2) := H
                    have A19 := Aside0.mk A190
                    clear A190
                    have H' := Aside0.mk H
                    clear H
                    have hcz20_0 : wc.cell? ⟨gb121, 0, none⟩ = some (.int .i64 ((rd_T64 l0 x14_1).f0)) := (blk_cell BK121.out 0).trans rfl
                    have hcz20_1 : wc.cell? ⟨gb121, 1, none⟩ = some (.int .i64 ((rd_T64 l0 x14_1).f1)) := (blk_cell BK121.out 1).trans rfl
                    have hcz20_2 : wc.cell? ⟨gb121, 2, none⟩ = some (.string ((rd_T64 l0 x14_1).f2)) := (blk_cell BK121.out 2).trans rfl
                    have hfz20_0 := blk_frozen BK121.out 0
                    have hfz20_1 := blk_frozen BK121.out 1
                    have hfz20_2 := blk_frozen BK121.out 2
                    go_wp2_with (first | ((with_reducible refine gate_callee (f := 41) rfl ?_); refine goesL_ (some 46) rfl rfl Try.func41 (by kernel_rfl) rfl #[.agg #[.int .i64 ((rd_T64 l0 x14_1).f0), .int .i64 ((rd_T64 l0 x14_1).f1), .string ((rd_T64 l0 x14_1).f2)]] rfl (by (try simp only [List.map_toArray, List.map_cons, List.map_nil]); first | done | rfl | (simp only [List.length_drop, List.length_take]; rfl)) ?_; (with_reducible refine (edit_more.calls ((rd_T64 l0 x14_1).f0) ((rd_T64 l0 x14_1).f1) ((rd_T64 l0 x14_1).f2) t124 _ A19.out).mono ?_); rintro e w21 ⟨rfl, hb⟩; refine ⟨_, rfl, ?_⟩; have n0_ := Aside0.mk (blk_below (g := gb121) (o := .cells #[.int .i64 ((rd_T64 l0 x14_1).f0), .int .i64 ((rd_T64 l0 x14_1).f1), .string ((rd_T64 l0 x14_1).f2)] 64 (0, 0)) (by (with_reducible repeat (first | refine blk_drewN ?_ _ | refine blk_drew ?_ | refine blk_alloc ?_ _)); exact BK121.out) hb); have n1_ := Aside0.mk (below_step (by repeat (first | (with_reducible first | exact HB.out | apply below_alloc | apply pw_below_drewN | apply below_drew1 | refine below_set ?_ GE121.out) | exact HB.out)) hb); clear BK121; clear HB; have BK121 := n0_; have HB := n1_; clear n0_ n1_; (try clear hb); (try clear hb2); (try clear hk); (try clear hi)))
                    go_roundg kj5
                    case measure => have := HK1.out; have := HJ5.out; omega
                    case rel => exact ⟨(x6_1), (wrap64 (x7_1 + t124)), (wrap64 (x14_1 + 1)), (by first | rfl | (simp; done) | (simp [*]; done)), (by first | rfl | (simp; done) | (simp [*]; done)), (by first | rfl | (simp; done) | (simp [*]; done)), H', ⟨by have := HK1.out; have := HJ5.out; omega⟩, ⟨by repeat (first | (with_reducible first | exact HB.out | apply below_alloc | apply pw_below_drewN | apply below_drew1 | refine below_set ?_ GE121.out) | exact HB.out)⟩⟩
          · rw [if_neg c5] at H
            exact absurd H (by simp)
        · rw [if_neg c4] at H
          exact absurd H (by simp)
      · rw [if_neg c3] at H
        have c3b0 : decide (x14_1 < (l0.length : Int)) = false := decide_eq_false c3
        clear c3
        simp only [Option.some.injEq, Prod.mk.injEq] at H
        obtain ⟨rfl, rfl⟩ := H
        go_wp2
        go_ret2
        exact ⟨by first | rfl | (simp [errW_none, errW_some, erT_no, erV_no, erT_at, erV_at] <;> rfl) | (simp [*, errW_none, errW_some, erT_no, erV_no, erT_at, erV_at] <;> rfl), by repeat (first | (with_reducible first | exact HB.out | apply below_alloc | apply pw_below_drewN | apply below_drew1) | exact HB.out)⟩

/-! ### utf_Boundary: function 54 -/
def utf_Boundary.f (l0 : List Int) (a1 : Int) : Option (Bool) := if a1 = (l0.length : Int) then (some true) else (if a1 < 0 then (some false) else (if a1 > (l0.length : Int) then (some false) else (if 0 ≤ a1 then (if a1 < (l0.length : Int) then (if ((rd l0 a1) / 64) = 0 then (some true) else (if ((rd l0 a1) / 64) = 1 then (some true) else (if ((rd l0 a1) / 64) = 3 then (some true) else (some false)))) else (none)) else (none))))
set_option maxHeartbeats 8000000 in
set_option maxRecDepth 100000 in
theorem utf_Boundary.calls (A0 : Option Addr) (c0 : Nat) (l0 : List Int) (a1 : Int) (r : Bool) (w : World) (hr0 : Kd.C (Kd.int .u8) w A0 l0.length l0) (hc0 : l0.length ≤ c0) (h : utf_Boundary.f l0 a1 = some r) :
    Calls Try.prog 54 #[.slice A0 l0.length c0, .int .i64 a1] w fun e w' => e = .returned (.bool r) ∧ Drawn0 w w' := by
  have HR0 := Aside0.mk hr0
  have HC0 := Aside0.mk hc0
  clear hr0 hc0
  have H : (if a1 = (l0.length : Int) then (some true) else (if a1 < 0 then (some false) else (if a1 > (l0.length : Int) then (some false) else (if 0 ≤ a1 then (if a1 < (l0.length : Int) then (if ((rd l0 a1) / 64) = 0 then (some true) else (if ((rd l0 a1) / 64) = 1 then (some true) else (if ((rd l0 a1) / 64) = 3 then (some true) else (some false)))) else (none)) else (none))))) = some r := h
  clear h
  by_cases c3 : a1 = (l0.length : Int)
  · rw [if_pos c3] at H
    have c3b0 : (a1 == (l0.length : Int)) = true := beq_iff_eq.mpr c3
    have c3b1 : (a1 != (l0.length : Int)) = false := bne_eq_false_iff_eq.mpr c3
    clear c3
    obtain rfl := Option.some.inj H
    go_enter Try.func54, Try.ntmps54
    go_wp2
    go_ret
    exact ⟨by first | rfl | (simp; done) | (simp [*]; done), by repeat (first | exact Drawn0.refl _ | apply Drawn0.step)⟩
  · rw [if_neg c3] at H
    have c3b0 : (a1 == (l0.length : Int)) = false := beq_eq_false_iff_ne.mpr c3
    have c3b1 : (a1 != (l0.length : Int)) = true := bne_iff_ne.mpr c3
    by_cases c4 : a1 < 0
    · rw [if_pos c4] at H
      have c4b0 : decide (a1 < 0) = true := decide_eq_true c4
      clear c4
      obtain rfl := Option.some.inj H
      go_enter Try.func54, Try.ntmps54
      go_wp2
      go_ret
      exact ⟨by first | rfl | (simp; done) | (simp [*]; done), by repeat (first | exact Drawn0.refl _ | apply Drawn0.step)⟩
    · rw [if_neg c4] at H
      have c4b0 : decide (a1 < 0) = false := decide_eq_false c4
      clear c4
      by_cases c5 : a1 > (l0.length : Int)
      · rw [if_pos c5] at H
        have c5b0 : decide ((l0.length : Int) < a1) = true := decide_eq_true c5
        clear c5
        obtain rfl := Option.some.inj H
        go_enter Try.func54, Try.ntmps54
        go_wp2
        go_ret
        exact ⟨by first | rfl | (simp; done) | (simp [*]; done), by repeat (first | exact Drawn0.refl _ | apply Drawn0.step)⟩
      · rw [if_neg c5] at H
        have c5b0 : decide ((l0.length : Int) < a1) = false := decide_eq_false c5
        clear c5
        by_cases c6 : 0 ≤ a1
        · rw [if_pos c6] at H
          have c6b0 : decide (0 ≤ a1) = true := decide_eq_true c6
          clear c6
          by_cases c7 : a1 < (l0.length : Int)
          · rw [if_pos c7] at H
            have c7b0 : decide (a1 < (l0.length : Int)) = true := decide_eq_true c7
            clear c7
            by_cases c8 : ((rd l0 a1) / 64) = 0
            · rw [if_pos c8] at H
              have c8b0 : (((rd l0 a1) / 64) == 0) = true := beq_iff_eq.mpr c8
              have c8b1 : (((rd l0 a1) / 64) != 0) = false := bne_eq_false_iff_eq.mpr c8
              clear c8
              obtain rfl := Option.some.inj H
              have p125 : 0 ≤ (a1 : Int) := of_decide_eq_true (by first | (with_reducible assumption) | assumption)
              have q125 : a1 < (l0.length : Int) := of_decide_eq_true (by first | (with_reducible assumption) | assumption)
              obtain ⟨ad125, e125, hx125_0⟩ := Kd.at_int HR0.out a1 p125 q125
              cases e125
              replace p125 := eq_true p125
              replace q125 := eq_true q125
              go_enter Try.func54, Try.ntmps54
              go_wp2
              go_ret
              exact ⟨by first | rfl | (simp; done) | (simp [*]; done), by repeat (first | exact Drawn0.refl _ | apply Drawn0.step)⟩
            · rw [if_neg c8] at H
              have c8b0 : (((rd l0 a1) / 64) == 0) = false := beq_eq_false_iff_ne.mpr c8
              have c8b1 : (((rd l0 a1) / 64) != 0) = true := bne_iff_ne.mpr c8
              by_cases c9 : ((rd l0 a1) / 64) = 1
              · rw [if_pos c9] at H
                have c9b0 : (((rd l0 a1) / 64) == 1) = true := beq_iff_eq.mpr c9
                have c9b1 : (((rd l0 a1) / 64) != 1) = false := bne_eq_false_iff_eq.mpr c9
                clear c9
                obtain rfl := Option.some.inj H
                have p125 : 0 ≤ (a1 : Int) := of_decide_eq_true (by first | (with_reducible assumption) | assumption)
                have q125 : a1 < (l0.length : Int) := of_decide_eq_true (by first | (with_reducible assumption) | assumption)
                obtain ⟨ad125, e125, hx125_0⟩ := Kd.at_int HR0.out a1 p125 q125
                cases e125
                replace p125 := eq_true p125
                replace q125 := eq_true q125
                go_enter Try.func54, Try.ntmps54
                go_wp2
                go_ret
                exact ⟨by first | rfl | (simp; done) | (simp [*]; done), by repeat (first | exact Drawn0.refl _ | apply Drawn0.step)⟩
              · rw [if_neg c9] at H
                have c9b0 : (((rd l0 a1) / 64) == 1) = false := beq_eq_false_iff_ne.mpr c9
                have c9b1 : (((rd l0 a1) / 64) != 1) = true := bne_iff_ne.mpr c9
                by_cases c10 : ((rd l0 a1) / 64) = 3
                · rw [if_pos c10] at H
                  have c10b0 : (((rd l0 a1) / 64) == 3) = true := beq_iff_eq.mpr c10
                  have c10b1 : (((rd l0 a1) / 64) != 3) = false := bne_eq_false_iff_eq.mpr c10
                  clear c10
                  obtain rfl := Option.some.inj H
                  have p125 : 0 ≤ (a1 : Int) := of_decide_eq_true (by first | (with_reducible assumption) | assumption)
                  have q125 : a1 < (l0.length : Int) := of_decide_eq_true (by first | (with_reducible assumption) | assumption)
                  obtain ⟨ad125, e125, hx125_0⟩ := Kd.at_int HR0.out a1 p125 q125
                  cases e125
                  replace p125 := eq_true p125
                  replace q125 := eq_true q125
                  go_enter Try.func54, Try.ntmps54
                  go_wp2
                  go_ret
                  exact ⟨by first | rfl | (simp; done) | (simp [*]; done), by repeat (first | exact Drawn0.refl _ | apply Drawn0.step)⟩
                · rw [if_neg c10] at H
                  have c10b0 : (((rd l0 a1) / 64) == 3) = false := beq_eq_false_iff_ne.mpr c10
                  have c10b1 : (((rd l0 a1) / 64) != 3) = true := bne_iff_ne.mpr c10
                  obtain rfl := Option.some.inj H
                  have p125 : 0 ≤ (a1 : Int) := of_decide_eq_true (by first | (with_reducible assumption) | assumption)
                  have q125 : a1 < (l0.length : Int) := of_decide_eq_true (by first | (with_reducible assumption) | assumption)
                  obtain ⟨ad125, e125, hx125_0⟩ := Kd.at_int HR0.out a1 p125 q125
                  cases e125
                  replace p125 := eq_true p125
                  replace q125 := eq_true q125
                  go_enter Try.func54, Try.ntmps54
                  go_wp2
                  go_ret
                  exact ⟨by first | rfl | (simp; done) | (simp [*]; done), by repeat (first | exact Drawn0.refl _ | apply Drawn0.step)⟩
          · rw [if_neg c7] at H
            exact absurd H (by simp)
        · rw [if_neg c6] at H
          exact absurd H (by simp)

end Go.Proofs.Ytnpgadfoohjlnaa.QB
