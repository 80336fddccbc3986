/- Where a Lean function of this text answers, the Go function of its name comes to that answer: no other condition. Written by a program of this session out of the translation; Lean checks it. -/
import Derived.Test.YtnpgadfoohjlnaaQV0
import Derived.Test.YtnpgadfoohjlnaaQV6
namespace Go.Proofs.Ytnpgadfoohjlnaa.QV
open Go.RowKit Go.Proofs.YtnpgadfoohjlnaaW.PrintWords Go.Proofs.YtnpgadfoohjlnaaW.PrintLast Go.Proofs.YtnpgadfoohjlnaaW.PrintMore Go.Proofs.YtnpgadfoohjlnaaW.PrintX
attribute [local go_sem] max2_int min2_int max_two min_two max_three min_three max_four min_four   -- for this text's walks alone
set_option linter.unusedVariables false
set_option linter.unusedSimpArgs false

/-! ### view_File_Op: function 13 -/
mutual
def view_File_Op.l0 : Nat → List (S72) → List Int → Int → Int → Option (Int)
  | 0, _, _, _, _ => none
  | k + 1, x0, x10, x11, x12 => if x12 < x11 then (if 0 ≤ x12 then (if x12 < (x10.length : Int) then (if 0 < (x0.length : Int) then (if 0 ≤ (rd x10 x12) then (if (rd x10 x12) < (((rd_T72 x0 0).f1).length : Int) then (if ((rd_T38 ((rd_T72 x0 0).f1) (rd x10 x12)).f0) = 78 then (view_File_Op.j1 k x0 ((rd_T38 ((rd_T72 x0 0).f1) (rd x10 x12)).f0) x10 x11 x12 ((rd_T38 ((rd_T72 x0 0).f1) (rd x10 x12)).f0) (((rd_T38 ((rd_T72 x0 0).f1) (rd x10 x12)).f0) == 78)) else (if ((rd_T38 ((rd_T72 x0 0).f1) (rd x10 x12)).f0) = 83 then (view_File_Op.j1 k x0 ((rd_T38 ((rd_T72 x0 0).f1) (rd x10 x12)).f0) x10 x11 x12 ((rd_T38 ((rd_T72 x0 0).f1) (rd x10 x12)).f0) (((rd_T38 ((rd_T72 x0 0).f1) (rd x10 x12)).f0) == 83)) else (if ((rd_T38 ((rd_T72 x0 0).f1) (rd x10 x12)).f0) = 79 then (view_File_Op.j1 k x0 ((rd_T38 ((rd_T72 x0 0).f1) (rd x10 x12)).f0) x10 x11 x12 ((rd_T38 ((rd_T72 x0 0).f1) (rd x10 x12)).f0) (((rd_T38 ((rd_T72 x0 0).f1) (rd x10 x12)).f0) == 79)) else (if ((rd_T38 ((rd_T72 x0 0).f1) (rd x10 x12)).f0) = 84 then (view_File_Op.j1 k x0 ((rd_T38 ((rd_T72 x0 0).f1) (rd x10 x12)).f0) x10 x11 x12 ((rd_T38 ((rd_T72 x0 0).f1) (rd x10 x12)).f0) (((rd_T38 ((rd_T72 x0 0).f1) (rd x10 x12)).f0) == 84)) else (if ((rd_T38 ((rd_T72 x0 0).f1) (rd x10 x12)).f0) = 80 then (view_File_Op.j1 k x0 ((rd_T38 ((rd_T72 x0 0).f1) (rd x10 x12)).f0) x10 x11 x12 ((rd_T38 ((rd_T72 x0 0).f1) (rd x10 x12)).f0) (((rd_T38 ((rd_T72 x0 0).f1) (rd x10 x12)).f0) == 80)) else (view_File_Op.j1 k x0 ((rd_T38 ((rd_T72 x0 0).f1) (rd x10 x12)).f0) x10 x11 x12 ((rd_T38 ((rd_T72 x0 0).f1) (rd x10 x12)).f0) (((rd_T38 ((rd_T72 x0 0).f1) (rd x10 x12)).f0) == 85))))))) else (none)) else (none)) else (none)) else (none)) else (none)) else (some 0)
def view_File_Op.j1 : Nat → List (S72) → Int → List Int → Int → Int → Int → Bool → Option (Int)
  | 0, _, _, _, _, _, _, _ => none
  | k + 1, x0, x7, x10, x11, x12, x24, x26 => if x26 = true then (view_File_Op.l0 k x0 x10 x11 (wrap64 (x12 + 1))) else (if x24 = 81 then (view_File_Op.l0 k x0 x10 x11 (wrap64 (x12 + 1))) else (if x24 = 82 then (view_File_Op.l0 k x0 x10 x11 (wrap64 (x12 + 1))) else (if x24 = 87 then (view_File_Op.l0 k x0 x10 x11 (wrap64 (x12 + 1))) else (if x24 = 86 then (view_File_Op.l0 k x0 x10 x11 (wrap64 (x12 + 1))) else (some x7)))))
end
def view_File_Op.f (k : Nat) (l0 : List (S72)) (a1 : Int) : Option (Int) := if 0 < (l0.length : Int) then ((view_File_Own.f l0 a1).bind fun t162 => (view_File_Op.l0 k l0 t162 (t162.length : Int) 0)) else (none)
theorem view_File_Op.mono_l : ∀ k, (∀ y0 y1 y2 y3, LeO (view_File_Op.l0 k y0 y1 y2 y3) (view_File_Op.l0 (k + 1) y0 y1 y2 y3)) ∧ (∀ y0 y1 y2 y3 y4 y5 y6, LeO (view_File_Op.j1 k y0 y1 y2 y3 y4 y5 y6) (view_File_Op.j1 (k + 1) y0 y1 y2 y3 y4 y5 y6))
  | 0 => ⟨fun _ _ _ _ r h => by simp [view_File_Op.l0] at h, fun _ _ _ _ _ _ _ r h => by simp [view_File_Op.j1] at h⟩
  | k + 1 => by
    obtain ⟨ih0, ih1⟩ := view_File_Op.mono_l k
    refine ⟨?_, ?_⟩
    · intro y0 y1 y2 y3
      unfold view_File_Op.l0
      repeat' first
      | (with_reducible exact ih0 _ _ _ _)
      | (with_reducible exact ih1 _ _ _ _ _ _ _)
      | (with_reducible exact LeO.refl _)
      | (with_reducible exact LeO.none _)
      | (with_reducible refine LeO.ite ?_ ?_)
      | (with_reducible refine LeO.bind ?_ (fun _ => ?_))
      | exact ih0 _ _ _ _
      | exact ih1 _ _ _ _ _ _ _
      | exact LeO.none _
      | refine LeO.ite ?_ ?_
      | refine LeO.bind ?_ (fun _ => ?_)
    · intro y0 y1 y2 y3 y4 y5 y6
      unfold view_File_Op.j1
      repeat' first
      | (with_reducible exact ih0 _ _ _ _)
      | (with_reducible exact ih1 _ _ _ _ _ _ _)
      | (with_reducible exact LeO.refl _)
      | (with_reducible exact LeO.none _)
      | (with_reducible refine LeO.ite ?_ ?_)
      | (with_reducible refine LeO.bind ?_ (fun _ => ?_))
      | exact ih0 _ _ _ _
      | exact ih1 _ _ _ _ _ _ _
      | exact LeO.none _
      | refine LeO.ite ?_ ?_
      | refine LeO.bind ?_ (fun _ => ?_)
theorem view_File_Op.mono : ∀ a0 a1 k, LeO (view_File_Op.f k a0 a1) (view_File_Op.f (k + 1) a0 a1) := by
  intro a0 a1 k
  obtain ⟨ih0, ih1⟩ := view_File_Op.mono_l k
  unfold view_File_Op.f
  repeat' first
      | (with_reducible exact ih0 _ _ _ _)
      | (with_reducible exact ih1 _ _ _ _ _ _ _)
      | (with_reducible exact LeO.refl _)
      | (with_reducible exact LeO.none _)
      | (with_reducible refine LeO.ite ?_ ?_)
      | (with_reducible refine LeO.bind ?_ (fun _ => ?_))
      | exact ih0 _ _ _ _
      | exact ih1 _ _ _ _ _ _ _
      | exact LeO.none _
      | refine LeO.ite ?_ ?_
      | refine LeO.bind ?_ (fun _ => ?_)
set_option maxHeartbeats 8000000 in
set_option maxRecDepth 100000 in
theorem view_File_Op.calls (k : Nat) (A0 : Option Addr) (c0 : Nat) (l0 : List (S72)) (a1 : Int) (r : Int) (w : World) (hr0 : Kd.C k72 w A0 l0.length l0) (hc0 : l0.length ≤ c0) (h : view_File_Op.f k l0 a1 = some r) :
    Calls Try.prog 13 #[.pointer A0, .int .i64 a1] w fun e w' => e = .returned (.int .i64 r) ∧ Below w.heap.size w w' := by
  have HR0 := Aside0.mk hr0
  have HC0 := Aside0.mk hc0
  clear hr0 hc0
  have HB := Aside0.mk (Below.refl w.heap.size w)
  have H : (if 0 < (l0.length : Int) then ((view_File_Own.f l0 a1).bind fun t162 => (view_File_Op.l0 k l0 t162 (t162.length : Int) 0)) else (none)) = some r := h
  clear h
  by_cases c3 : 0 < (l0.length : Int)
  · rw [if_pos c3] at H
    have c3b0 : decide (0 < (l0.length : Int)) = true := decide_eq_true c3
    have c3b1 : decide (0 < l0.length) = true := decide_eq_true (by omega)
    clear c3
    replace H := Option.bind_eq_some_iff.mp H
    obtain ⟨t162, A40, H⟩ := H
    replace H : (view_File_Op.l0 k l0 t162 (t162.length : Int) 0) = some r := H
    have A4 := Aside0.mk A40
    clear A40
    have H' := Aside0.mk H
    clear H
    have p161 : 0 ≤ (0 : Int) := (by omega)
    have q161 : 0 < (l0.length : Int) := of_decide_eq_true (by first | (with_reducible assumption) | assumption)
    obtain ⟨ad161, A161_0, c161_0, A161_1, c161_1, A161_2, c161_2, e161, hx161_0, hx161_1, hx161_2, hl161_0, hi161_0, hl161_1, hi161_1, hl161_2, hi161_2⟩ := at_T72 HR0.out 0 p161 q161
    cases e161
    have qi161 : (0 < l0.length) = True := eq_true (by omega)
    (try rw [show ((0 : Int)).toNat = 0 from rfl] at hx161_0)
    (try rw [show 0 * 3 = 0 from rfl] at hx161_0)
    (try rw [Addr.add_zero'] at hx161_0)
    (try rw [show ((0 : Int)).toNat = 0 from rfl] at hx161_1)
    (try rw [show 0 * 3 = 0 from rfl] at hx161_1)
    (try rw [Addr.add_zero'] at hx161_1)
    (try rw [show ((0 : Int)).toNat = 0 from rfl] at hx161_2)
    (try rw [show 0 * 3 = 0 from rfl] at hx161_2)
    (try rw [Addr.add_zero'] at hx161_2)
    have HR161_0 := Aside0.mk hi161_0
    have HC161_0 := Aside0.mk hl161_0
    clear hi161_0 hl161_0
    have HR161_1 := Aside0.mk hi161_1
    have HC161_1 := Aside0.mk hl161_1
    clear hi161_1 hl161_1
    have HR161_2 := Aside0.mk hi161_2
    have HC161_2 := Aside0.mk hl161_2
    clear hi161_2 hl161_2
    replace p161 := eq_true p161
    replace q161 := eq_true q161
    go_enter Try.func13, Try.ntmps13
    go_wp2_with (first | ((with_reducible refine gate_callee (f := 38) rfl ?_); refine goesL_ (some 10) rfl rfl Try.func38 (by kernel_rfl) rfl #[.pointer (some ad161), .int .i64 a1] rfl (by (try simp only [List.map_toArray, List.map_cons, List.map_nil]); first | done | rfl | (simp only [List.length_drop, List.length_take]; rfl)) ?_; (with_reducible refine (view_File_Own.calls _ c0 l0 a1 t162 _ ?side1 ?side2 A4.out).mono ?_); (case side1 => repeat (first | exact HR0.out | (with_reducible refine Kd.C_alloc ?_ _) | (with_reducible refine Kd.C_drewN ?_ _) | (with_reducible refine Kd.C_drew ?_))); (case side2 => exact HC0.out); rintro e w5 ⟨v163, rfl, ho0, hb⟩; refine ⟨_, rfl, ?_⟩; have n0_ := Aside0.mk (Kd.R_lower ho0 (below_size (by repeat (first | (with_reducible first | exact HB.out | apply below_alloc | apply pw_below_drewN | apply below_drew1) | exact HB.out)))); have n1_ := Aside0.mk (below_step (by repeat (first | (with_reducible first | exact HB.out | apply below_alloc | apply pw_below_drewN | apply below_drew1) | exact HB.out)) hb); clear HB; have HO164 := n0_; have HB := n1_; clear n0_ n1_; (try clear hb); (try clear hb2); (try clear hk); (try clear hi); (try clear ho0); obtain ⟨Ao6, co6, eo6⟩ := Kd.R_slice HO164.out; subst eo6))
    go_loopg [12] k (fun kq v12 w' => ∃ (x12_1 : Int), v12 = .int .i64 x12_1 ∧ Aside0 (view_File_Op.l0 kq l0 t162 (t162.length : Int) x12_1 = some r) ∧ Aside0 (kq ≤ k) ∧ Aside0 (Kd.R (Kd.int .i64) 3 w' w.heap.size (fun _ => True) (.slice Ao6 t162.length co6) t162) ∧ Aside0 (Below w.heap.size w w'))
    case atStart => exact ⟨(0), (by first | rfl | (simp; done) | (simp [*]; done)), H', ⟨Nat.le_refl _⟩, ⟨by (with_reducible repeat (first | apply Kd.R_alloc | apply Kd.R_drewN | apply Kd.R_drew)); exact HO164.out⟩, ⟨by repeat (first | (with_reducible first | exact HB.out | apply below_alloc | apply pw_below_drewN | apply below_drew1) | exact HB.out)⟩⟩
    case round =>
      clear H'
      try clear c1
      try clear p1
      try clear q1
      try clear hx1
      try clear qi1
      try clear p2
      try clear c3
      try clear c3b0
      try clear c3b1
      try clear hx161_0
      try clear hx161_1
      try clear hx161_2
      try clear p161
      try clear q161
      obtain ⟨x12_1, rfl, HA, HK1, HO_10, HB⟩ := hrel
      cases gk with
      | zero => exact absurd HA.out (by simp [view_File_Op.l0])
      | succ k1 =>
        have H := HA.out
        clear HA
        simp only [view_File_Op.l0] at H
        by_cases c7 : x12_1 < (t162.length : Int)
        · rw [if_pos c7] at H
          have c7b0 : decide (x12_1 < (t162.length : Int)) = true := decide_eq_true c7
          clear c7
          by_cases c8 : 0 ≤ x12_1
          · rw [if_pos c8] at H
            have c8b0 : decide (0 ≤ x12_1) = true := decide_eq_true c8
            clear c8
            by_cases c9 : x12_1 < (t162.length : Int)
            · rw [if_pos c9] at H
              have c9b0 : decide (x12_1 < (t162.length : Int)) = true := decide_eq_true c9
              clear c9
              by_cases c10 : 0 < (l0.length : Int)
              · rw [if_pos c10] at H
                have c10b0 : decide (0 < (l0.length : Int)) = true := decide_eq_true c10
                have c10b1 : decide (0 < l0.length) = true := decide_eq_true (by omega)
                clear c10
                by_cases c11 : 0 ≤ (rd t162 x12_1)
                · rw [if_pos c11] at H
                  have c11b0 : decide (0 ≤ (rd t162 x12_1)) = true := decide_eq_true c11
                  clear c11
                  by_cases c12 : (rd t162 x12_1) < (((rd_T72 l0 0).f1).length : Int)
                  · rw [if_pos c12] at H
                    have c12b0 : decide ((rd t162 x12_1) < (((rd_T72 l0 0).f1).length : Int)) = true := decide_eq_true c12
                    clear c12
                    have HC13 := Aside0.mk H
                    clear H
                    have p165 : 0 ≤ (x12_1 : Int) := of_decide_eq_true (by first | (with_reducible assumption) | assumption)
                    have q165 : x12_1 < (t162.length : Int) := of_decide_eq_true (by first | (with_reducible assumption) | assumption)
                    obtain ⟨ad165, e165, hx165_0⟩ := Kd.at_int (Kd.R_reads' HO_10.out).2.2 x12_1 p165 q165
                    cases e165
                    replace p165 := eq_true p165
                    replace q165 := eq_true q165
                    have p166 : 0 ≤ (0 : Int) := (by omega)
                    have q166 : 0 < (l0.length : Int) := of_decide_eq_true (by first | (with_reducible assumption) | assumption)
                    obtain ⟨ad166, A166_0, c166_0, A166_1, c166_1, A166_2, c166_2, e166, hx166_0, hx166_1, hx166_2, hl166_0, hi166_0, hl166_1, hi166_1, hl166_2, hi166_2⟩ := at_T72 HR0.out 0 p166 q166
                    obtain rfl : ad161 = ad166 := (by injection e166)
                    have qi166 : (0 < l0.length) = True := eq_true (by omega)
                    (try rw [show ((0 : Int)).toNat = 0 from rfl] at hx166_0)
                    (try rw [show 0 * 3 = 0 from rfl] at hx166_0)
                    (try rw [Addr.add_zero'] at hx166_0)
                    (try rw [show ((0 : Int)).toNat = 0 from rfl] at hx166_1)
                    (try rw [show 0 * 3 = 0 from rfl] at hx166_1)
                    (try rw [Addr.add_zero'] at hx166_1)
                    (try rw [show ((0 : Int)).toNat = 0 from rfl] at hx166_2)
                    (try rw [show 0 * 3 = 0 from rfl] at hx166_2)
                    (try rw [Addr.add_zero'] at hx166_2)
                    replace hx166_0 := (HB.out.cell (World.block_lt_of_cell? w _ hx166_0)).trans hx166_0
                    replace hx166_1 := (HB.out.cell (World.block_lt_of_cell? w _ hx166_1)).trans hx166_1
                    replace hx166_2 := (HB.out.cell (World.block_lt_of_cell? w _ hx166_2)).trans hx166_2
                    have HR166_0 := Aside0.mk hi166_0
                    have HC166_0 := Aside0.mk hl166_0
                    clear hi166_0 hl166_0
                    have HR166_1 := Aside0.mk hi166_1
                    have HC166_1 := Aside0.mk hl166_1
                    clear hi166_1 hl166_1
                    have HR166_2 := Aside0.mk hi166_2
                    have HC166_2 := Aside0.mk hl166_2
                    clear hi166_2 hl166_2
                    replace p166 := eq_true p166
                    replace q166 := eq_true q166
                    have p167 : 0 ≤ ((rd t162 x12_1) : Int) := of_decide_eq_true (by first | (with_reducible assumption) | assumption)
                    have q167 : (rd t162 x12_1) < (((rd_T72 l0 0).f1).length : Int) := of_decide_eq_true (by first | (with_reducible assumption) | assumption)
                    obtain ⟨ad167, e167, hx167_0, hx167_1, hx167_2, hx167_3, hx167_4⟩ := at_T38 HR166_1.out (rd t162 x12_1) p167 q167
                    cases e167
                    replace hx167_0 := (HB.out.cell (World.block_lt_of_cell? w _ hx167_0)).trans hx167_0
                    replace hx167_1 := (HB.out.cell (World.block_lt_of_cell? w _ hx167_1)).trans hx167_1
                    replace hx167_2 := (HB.out.cell (World.block_lt_of_cell? w _ hx167_2)).trans hx167_2
                    replace hx167_3 := (HB.out.cell (World.block_lt_of_cell? w _ hx167_3)).trans hx167_3
                    replace hx167_4 := (HB.out.cell (World.block_lt_of_cell? w _ hx167_4)).trans hx167_4
                    replace p167 := eq_true p167
                    replace q167 := eq_true q167
                    go_upto_if 26 with (fail)
                    go_cut [26] (fun v26 wc => ∃ (kq : Nat) (x26_12 : Bool), v26 = .bool x26_12 ∧ Aside0 (view_File_Op.j1 kq l0 ((rd_T38 ((rd_T72 l0 0).f1) (rd t162 x12_1)).f0) t162 (t162.length : Int) x12_1 ((rd_T38 ((rd_T72 l0 0).f1) (rd t162 x12_1)).f0) x26_12 = some r) ∧ Aside0 (kq ≤ k1) ∧ Aside0 (Kd.R (Kd.int .i64) 3 wc w.heap.size (fun _ => True) (.slice (some ad165) t162.length co6) t162) ∧ Aside0 (Below w.heap.size w wc))
                    case first =>
                      have H := HC13.out
                      clear HC13
                      by_cases c14 : ((rd_T38 ((rd_T72 l0 0).f1) (rd t162 x12_1)).f0) = 78
                      · rw [if_pos c14] at H
                        have c14b0 : (((rd_T38 ((rd_T72 l0 0).f1) (rd t162 x12_1)).f0) == 78) = true := beq_iff_eq.mpr c14
                        have c14b1 : (((rd_T38 ((rd_T72 l0 0).f1) (rd t162 x12_1)).f0) != 78) = false := bne_eq_false_iff_eq.mpr c14
                        clear c14
                        (first | rw [c14b0] | (simp only [i64_w, i32_w]; rw [c14b0]) | skip)
                        have H' := Aside0.mk H
                        clear H
                        go_wp2
                        go_meet
                        case rel => exact ⟨_, ((((rd_T38 ((rd_T72 l0 0).f1) (rd t162 x12_1)).f0) == 78)), (by first | rfl | (simp; done) | (simp [*]; done)), H', ⟨by have := HK1.out; first | omega | exact Nat.le_refl _⟩, ⟨by (with_reducible repeat (first | apply Kd.R_alloc | apply Kd.R_drewN | apply Kd.R_drew)); exact HO_10.out⟩, ⟨by repeat (first | (with_reducible first | exact HB.out | apply below_alloc | apply pw_below_drewN | apply below_drew1) | exact HB.out)⟩⟩
                      · rw [if_neg c14] at H
                        have c14b0 : (((rd_T38 ((rd_T72 l0 0).f1) (rd t162 x12_1)).f0) == 78) = false := beq_eq_false_iff_ne.mpr c14
                        have c14b1 : (((rd_T38 ((rd_T72 l0 0).f1) (rd t162 x12_1)).f0) != 78) = true := bne_iff_ne.mpr c14
                        (first | rw [c14b0] | (simp only [i64_w, i32_w]; rw [c14b0]) | skip)
                        by_cases c15 : ((rd_T38 ((rd_T72 l0 0).f1) (rd t162 x12_1)).f0) = 83
                        · rw [if_pos c15] at H
                          have c15b0 : (((rd_T38 ((rd_T72 l0 0).f1) (rd t162 x12_1)).f0) == 83) = true := beq_iff_eq.mpr c15
                          have c15b1 : (((rd_T38 ((rd_T72 l0 0).f1) (rd t162 x12_1)).f0) != 83) = false := bne_eq_false_iff_eq.mpr c15
                          clear c15
                          have H' := Aside0.mk H
                          clear H
                          go_wp2
                          go_meet
                          case rel => exact ⟨_, ((((rd_T38 ((rd_T72 l0 0).f1) (rd t162 x12_1)).f0) == 83)), (by first | rfl | (simp; done) | (simp [*]; done)), H', ⟨by have := HK1.out; first | omega | exact Nat.le_refl _⟩, ⟨by (with_reducible repeat (first | apply Kd.R_alloc | apply Kd.R_drewN | apply Kd.R_drew)); exact HO_10.out⟩, ⟨by repeat (first | (with_reducible first | exact HB.out | apply below_alloc | apply pw_below_drewN | apply below_drew1) | exact HB.out)⟩⟩
                        · rw [if_neg c15] at H
                          have c15b0 : (((rd_T38 ((rd_T72 l0 0).f1) (rd t162 x12_1)).f0) == 83) = false := beq_eq_false_iff_ne.mpr c15
                          have c15b1 : (((rd_T38 ((rd_T72 l0 0).f1) (rd t162 x12_1)).f0) != 83) = true := bne_iff_ne.mpr c15
                          by_cases c16 : ((rd_T38 ((rd_T72 l0 0).f1) (rd t162 x12_1)).f0) = 79
                          · rw [if_pos c16] at H
                            have c16b0 : (((rd_T38 ((rd_T72 l0 0).f1) (rd t162 x12_1)).f0) == 79) = true := beq_iff_eq.mpr c16
                            have c16b1 : (((rd_T38 ((rd_T72 l0 0).f1) (rd t162 x12_1)).f0) != 79) = false := bne_eq_false_iff_eq.mpr c16
                            clear c16
                            have H' := Aside0.mk H
                            clear H
                            go_wp2
                            go_meet
                            case rel => exact ⟨_, ((((rd_T38 ((rd_T72 l0 0).f1) (rd t162 x12_1)).f0) == 79)), (by first | rfl | (simp; done) | (simp [*]; done)), H', ⟨by have := HK1.out; first | omega | exact Nat.le_refl _⟩, ⟨by (with_reducible repeat (first | apply Kd.R_alloc | apply Kd.R_drewN | apply Kd.R_drew)); exact HO_10.out⟩, ⟨by repeat (first | (with_reducible first | exact HB.out | apply below_alloc | apply pw_below_drewN | apply below_drew1) | exact HB.out)⟩⟩
                          · rw [if_neg c16] at H
                            have c16b0 : (((rd_T38 ((rd_T72 l0 0).f1) (rd t162 x12_1)).f0) == 79) = false := beq_eq_false_iff_ne.mpr c16
                            have c16b1 : (((rd_T38 ((rd_T72 l0 0).f1) (rd t162 x12_1)).f0) != 79) = true := bne_iff_ne.mpr c16
                            by_cases c17 : ((rd_T38 ((rd_T72 l0 0).f1) (rd t162 x12_1)).f0) = 84
                            · rw [if_pos c17] at H
                              have c17b0 : (((rd_T38 ((rd_T72 l0 0).f1) (rd t162 x12_1)).f0) == 84) = true := beq_iff_eq.mpr c17
                              have c17b1 : (((rd_T38 ((rd_T72 l0 0).f1) (rd t162 x12_1)).f0) != 84) = false := bne_eq_false_iff_eq.mpr c17
                              clear c17
                              have H' := Aside0.mk H
                              clear H
                              go_wp2
                              go_meet
                              case rel => exact ⟨_, ((((rd_T38 ((rd_T72 l0 0).f1) (rd t162 x12_1)).f0) == 84)), (by first | rfl | (simp; done) | (simp [*]; done)), H', ⟨by have := HK1.out; first | omega | exact Nat.le_refl _⟩, ⟨by (with_reducible repeat (first | apply Kd.R_alloc | apply Kd.R_drewN | apply Kd.R_drew)); exact HO_10.out⟩, ⟨by repeat (first | (with_reducible first | exact HB.out | apply below_alloc | apply pw_below_drewN | apply below_drew1) | exact HB.out)⟩⟩
                            · rw [if_neg c17] at H
                              have c17b0 : (((rd_T38 ((rd_T72 l0 0).f1) (rd t162 x12_1)).f0) == 84) = false := beq_eq_false_iff_ne.mpr c17
                              have c17b1 : (((rd_T38 ((rd_T72 l0 0).f1) (rd t162 x12_1)).f0) != 84) = true := bne_iff_ne.mpr c17
                              by_cases c18 : ((rd_T38 ((rd_T72 l0 0).f1) (rd t162 x12_1)).f0) = 80
                              · rw [if_pos c18] at H
                                have c18b0 : (((rd_T38 ((rd_T72 l0 0).f1) (rd t162 x12_1)).f0) == 80) = true := beq_iff_eq.mpr c18
                                have c18b1 : (((rd_T38 ((rd_T72 l0 0).f1) (rd t162 x12_1)).f0) != 80) = false := bne_eq_false_iff_eq.mpr c18
                                clear c18
                                have H' := Aside0.mk H
                                clear H
                                go_wp2
                                go_meet
                                case rel => exact ⟨_, ((((rd_T38 ((rd_T72 l0 0).f1) (rd t162 x12_1)).f0) == 80)), (by first | rfl | (simp; done) | (simp [*]; done)), H', ⟨by have := HK1.out; first | omega | exact Nat.le_refl _⟩, ⟨by (with_reducible repeat (first | apply Kd.R_alloc | apply Kd.R_drewN | apply Kd.R_drew)); exact HO_10.out⟩, ⟨by repeat (first | (with_reducible first | exact HB.out | apply below_alloc | apply pw_below_drewN | apply below_drew1) | exact HB.out)⟩⟩
                              · rw [if_neg c18] at H
                                have c18b0 : (((rd_T38 ((rd_T72 l0 0).f1) (rd t162 x12_1)).f0) == 80) = false := beq_eq_false_iff_ne.mpr c18
                                have c18b1 : (((rd_T38 ((rd_T72 l0 0).f1) (rd t162 x12_1)).f0) != 80) = true := bne_iff_ne.mpr c18
                                have H' := Aside0.mk H
                                clear H
                                go_wp2
                                go_meet
                                case rel => exact ⟨_, ((((rd_T38 ((rd_T72 l0 0).f1) (rd t162 x12_1)).f0) == 85)), (by first | rfl | (simp; done) | (simp [*]; done)), H', ⟨by have := HK1.out; first | omega | exact Nat.le_refl _⟩, ⟨by (with_reducible repeat (first | apply Kd.R_alloc | apply Kd.R_drewN | apply Kd.R_drew)); exact HO_10.out⟩, ⟨by repeat (first | (with_reducible first | exact HB.out | apply below_alloc | apply pw_below_drewN | apply below_drew1) | exact HB.out)⟩⟩
                    case rest =>
                      clear HC13
                      try clear c1
                      try clear p1
                      try clear q1
                      try clear hx1
                      try clear qi1
                      try clear p2
                      try clear c3
                      try clear c3b0
                      try clear c3b1
                      try clear c7
                      try clear c7b0
                      try clear c8
                      try clear c8b0
                      try clear c9
                      try clear c9b0
                      try clear c10
                      try clear c10b0
                      try clear c10b1
                      try clear c11
                      try clear c11b0
                      try clear c12
                      try clear c12b0
                      try clear c13
                      try clear c14
                      try clear c14b0
                      try clear c14b1
                      try clear c15
                      try clear c15b0
                      try clear c15b1
                      try clear c16
                      try clear c16b0
                      try clear c16b1
                      try clear p16
                      try clear q16
                      try clear hx16
                      try clear qi16
                      try clear c17
                      try clear c17b0
                      try clear c17b1
                      try clear c18
                      try clear c18b0
                      try clear c18b1
                      try clear hx161_0
                      try clear hx161_1
                      try clear hx161_2
                      try clear hx165_0
                      try clear hx166_0
                      try clear hx166_1
                      try clear hx166_2
                      try clear hx167_0
                      try clear hx167_1
                      try clear hx167_2
                      try clear hx167_3
                      try clear hx167_4
                      try clear p1
                      try clear p161
                      try clear p165
                      try clear p166
                      try clear p167
                      try clear p2
                      try clear q1
                      try clear q161
                      try clear q165
                      try clear q166
                      try clear q167
                      obtain ⟨kq, x26_12, rfl, HA, HJ12, HO_10, HB⟩ := hcut
                      cases kq with
                      | zero => exact absurd HA.out (by simp [view_File_Op.j1])
                      | succ kj12 =>
                        have H := HA.out
                        clear HA
                        simp only [view_File_Op.j1] at H
                        by_cases c19 : x26_12 = true
                        · subst c19
                          have H1 : (view_File_Op.l0 kj12 l0 t162 (t162.length : Int) (wrap64 (x12_1 + 1))) = some r := by rw [if_pos rfl] at H; exact H
                          clear H
                          have H := H1
                          clear H1
                          have H' := Aside0.mk H
                          clear H
                          go_wp2
                          go_roundg kj12
                          case measure => have := HK1.out; have := HJ12.out; omega
                          case rel => exact ⟨(wrap64 (x12_1 + 1)), (by first | rfl | (simp; done) | (simp [*]; done)), H', ⟨by have := HK1.out; have := HJ12.out; omega⟩, ⟨by (with_reducible repeat (first | apply Kd.R_alloc | apply Kd.R_drewN | apply Kd.R_drew)); exact HO_10.out⟩, ⟨by repeat (first | (with_reducible first | exact HB.out | apply below_alloc | apply pw_below_drewN | apply below_drew1) | exact HB.out)⟩⟩
                        · replace c19 := Bool.eq_false_iff.mpr c19
                          subst c19
                          have H1 : (if ((rd_T38 ((rd_T72 l0 0).f1) (rd t162 x12_1)).f0) = 81 then (view_File_Op.l0 kj12 l0 t162 (t162.length : Int) (wrap64 (x12_1 + 1))) else (if ((rd_T38 ((rd_T72 l0 0).f1) (rd t162 x12_1)).f0) = 82 then (view_File_Op.l0 kj12 l0 t162 (t162.length : Int) (wrap64 (x12_1 + 1))) else (if ((rd_T38 ((rd_T72 l0 0).f1) (rd t162 x12_1)).f0) = 87 then (view_File_Op.l0 kj12 l0 t162 (t162.length : Int) (wrap64 (x12_1 + 1))) else (if ((rd_T38 ((rd_T72 l0 0).f1) (rd t162 x12_1)).f0) = 86 then (view_File_Op.l0 kj12 l0 t162 (t162.length : Int) (wrap64 (x12_1 + 1))) else (some ((rd_T38 ((rd_T72 l0 0).f1) (rd t162 x12_1)).f0)))))) = some r := by rw [if_neg (show ¬ (false = true) by decide)] at H; exact H
                          clear H
                          have H := H1
                          clear H1
                          by_cases c20 : ((rd_T38 ((rd_T72 l0 0).f1) (rd t162 x12_1)).f0) = 81
                          · rw [if_pos c20] at H
                            have c20b0 : (((rd_T38 ((rd_T72 l0 0).f1) (rd t162 x12_1)).f0) == 81) = true := beq_iff_eq.mpr c20
                            have c20b1 : (((rd_T38 ((rd_T72 l0 0).f1) (rd t162 x12_1)).f0) != 81) = false := bne_eq_false_iff_eq.mpr c20
                            clear c20
                            have H' := Aside0.mk H
                            clear H
                            go_wp2
                            go_roundg kj12
                            case measure => have := HK1.out; have := HJ12.out; omega
                            case rel => exact ⟨(wrap64 (x12_1 + 1)), (by first | rfl | (simp; done) | (simp [*]; done)), H', ⟨by have := HK1.out; have := HJ12.out; omega⟩, ⟨by (with_reducible repeat (first | apply Kd.R_alloc | apply Kd.R_drewN | apply Kd.R_drew)); exact HO_10.out⟩, ⟨by repeat (first | (with_reducible first | exact HB.out | apply below_alloc | apply pw_below_drewN | apply below_drew1) | exact HB.out)⟩⟩
                          · rw [if_neg c20] at H
                            have c20b0 : (((rd_T38 ((rd_T72 l0 0).f1) (rd t162 x12_1)).f0) == 81) = false := beq_eq_false_iff_ne.mpr c20
                            have c20b1 : (((rd_T38 ((rd_T72 l0 0).f1) (rd t162 x12_1)).f0) != 81) = true := bne_iff_ne.mpr c20
                            by_cases c21 : ((rd_T38 ((rd_T72 l0 0).f1) (rd t162 x12_1)).f0) = 82
                            · rw [if_pos c21] at H
                              have c21b0 : (((rd_T38 ((rd_T72 l0 0).f1) (rd t162 x12_1)).f0) == 82) = true := beq_iff_eq.mpr c21
                              have c21b1 : (((rd_T38 ((rd_T72 l0 0).f1) (rd t162 x12_1)).f0) != 82) = false := bne_eq_false_iff_eq.mpr c21
                              clear c21
                              have H' := Aside0.mk H
                              clear H
                              go_wp2
                              go_roundg kj12
                              case measure => have := HK1.out; have := HJ12.out; omega
                              case rel => exact ⟨(wrap64 (x12_1 + 1)), (by first | rfl | (simp; done) | (simp [*]; done)), H', ⟨by have := HK1.out; have := HJ12.out; omega⟩, ⟨by (with_reducible repeat (first | apply Kd.R_alloc | apply Kd.R_drewN | apply Kd.R_drew)); exact HO_10.out⟩, ⟨by repeat (first | (with_reducible first | exact HB.out | apply below_alloc | apply pw_below_drewN | apply below_drew1) | exact HB.out)⟩⟩
                            · rw [if_neg c21] at H
                              have c21b0 : (((rd_T38 ((rd_T72 l0 0).f1) (rd t162 x12_1)).f0) == 82) = false := beq_eq_false_iff_ne.mpr c21
                              have c21b1 : (((rd_T38 ((rd_T72 l0 0).f1) (rd t162 x12_1)).f0) != 82) = true := bne_iff_ne.mpr c21
                              by_cases c22 : ((rd_T38 ((rd_T72 l0 0).f1) (rd t162 x12_1)).f0) = 87
                              · rw [if_pos c22] at H
                                have c22b0 : (((rd_T38 ((rd_T72 l0 0).f1) (rd t162 x12_1)).f0) == 87) = true := beq_iff_eq.mpr c22
                                have c22b1 : (((rd_T38 ((rd_T72 l0 0).f1) (rd t162 x12_1)).f0) != 87) = false := bne_eq_false_iff_eq.mpr c22
                                clear c22
                                have H' := Aside0.mk H
                                clear H
                                go_wp2
                                go_roundg kj12
                                case measure => have := HK1.out; have := HJ12.out; omega
                                case rel => exact ⟨(wrap64 (x12_1 + 1)), (by first | rfl | (simp; done) | (simp [*]; done)), H', ⟨by have := HK1.out; have := HJ12.out; omega⟩, ⟨by (with_reducible repeat (first | apply Kd.R_alloc | apply Kd.R_drewN | apply Kd.R_drew)); exact HO_10.out⟩, ⟨by repeat (first | (with_reducible first | exact HB.out | apply below_alloc | apply pw_below_drewN | apply below_drew1) | exact HB.out)⟩⟩
                              · rw [if_neg c22] at H
                                have c22b0 : (((rd_T38 ((rd_T72 l0 0).f1) (rd t162 x12_1)).f0) == 87) = false := beq_eq_false_iff_ne.mpr c22
                                have c22b1 : (((rd_T38 ((rd_T72 l0 0).f1) (rd t162 x12_1)).f0) != 87) = true := bne_iff_ne.mpr c22
                                by_cases c23 : ((rd_T38 ((rd_T72 l0 0).f1) (rd t162 x12_1)).f0) = 86
                                · rw [if_pos c23] at H
                                  have c23b0 : (((rd_T38 ((rd_T72 l0 0).f1) (rd t162 x12_1)).f0) == 86) = true := beq_iff_eq.mpr c23
                                  have c23b1 : (((rd_T38 ((rd_T72 l0 0).f1) (rd t162 x12_1)).f0) != 86) = false := bne_eq_false_iff_eq.mpr c23
                                  clear c23
                                  have H' := Aside0.mk H
                                  clear H
                                  go_wp2
                                  go_roundg kj12
                                  case measure => have := HK1.out; have := HJ12.out; omega
                                  case rel => exact ⟨(wrap64 (x12_1 + 1)), (by first | rfl | (simp; done) | (simp [*]; done)), H', ⟨by have := HK1.out; have := HJ12.out; omega⟩, ⟨by (with_reducible repeat (first | apply Kd.R_alloc | apply Kd.R_drewN | apply Kd.R_drew)); exact HO_10.out⟩, ⟨by repeat (first | (with_reducible first | exact HB.out | apply below_alloc | apply pw_below_drewN | apply below_drew1) | exact HB.out)⟩⟩
                                · rw [if_neg c23] at H
                                  have c23b0 : (((rd_T38 ((rd_T72 l0 0).f1) (rd t162 x12_1)).f0) == 86) = false := beq_eq_false_iff_ne.mpr c23
                                  have c23b1 : (((rd_T38 ((rd_T72 l0 0).f1) (rd t162 x12_1)).f0) != 86) = true := bne_iff_ne.mpr c23
                                  obtain rfl := Option.some.inj H
                                  go_wp2
                                  go_ret
                                  exact ⟨by first | rfl | (simp [errW_none, errW_some, erT_no, erV_no, erT_at, erV_at] <;> rfl) | (simp [*, errW_none, errW_some, erT_no, erV_no, erT_at, erV_at] <;> rfl), by repeat (first | (with_reducible first | exact HB.out | apply below_alloc | apply pw_below_drewN | apply below_drew1) | exact HB.out)⟩
                  · rw [if_neg c12] at H
                    exact absurd H (by simp)
                · rw [if_neg c11] at H
                  exact absurd H (by simp)
              · rw [if_neg c10] at H
                exact absurd H (by simp)
            · rw [if_neg c9] at H
              exact absurd H (by simp)
          · rw [if_neg c8] at H
            exact absurd H (by simp)
        · rw [if_neg c7] at H
          have c7b0 : decide (x12_1 < (t162.length : Int)) = false := decide_eq_false c7
          clear c7
          obtain rfl := Option.some.inj H
          go_wp2
          go_ret
          exact ⟨by first | rfl | (simp [errW_none, errW_some, erT_no, erV_no, erT_at, erV_at] <;> rfl) | (simp [*, errW_none, errW_some, erT_no, erV_no, erT_at, erV_at] <;> rfl), by repeat (first | (with_reducible first | exact HB.out | apply below_alloc | apply pw_below_drewN | apply below_drew1) | exact HB.out)⟩
  · rw [if_neg c3] at H
    exact absurd H (by simp)

/-! ### view_File_Op_nil: function 13 -/
def view_File_Op_nil.l0 : Nat → List Int → Int → Int → Option (Int)
  | 0, _, _, _ => none
  | k + 1, x10, x11, x12 => if x12 < x11 then (if 0 ≤ x12 then (if x12 < (x10.length : Int) then (none) else (none)) else (none)) else (some 0)
def view_File_Op_nil.f (k : Nat) (a0 : Unit) (a1 : Int) : Option (Int) := (view_File_Own_nil.f a0 a1).bind fun t168 => (view_File_Op_nil.l0 k t168 (t168.length : Int) 0)
theorem view_File_Op_nil.mono_l : ∀ k, (∀ y0 y1 y2, LeO (view_File_Op_nil.l0 k y0 y1 y2) (view_File_Op_nil.l0 (k + 1) y0 y1 y2))
  | 0 => fun _ _ _ r h => by simp [view_File_Op_nil.l0] at h
  | k + 1 => by
    have ih0 := view_File_Op_nil.mono_l k
    · intro y0 y1 y2
      unfold view_File_Op_nil.l0
      repeat' first
      | (with_reducible exact ih0 _ _ _)
      | (with_reducible exact LeO.refl _)
      | (with_reducible exact LeO.none _)
      | (with_reducible refine LeO.ite ?_ ?_)
      | (with_reducible refine LeO.bind ?_ (fun _ => ?_))
      | exact ih0 _ _ _
      | exact LeO.none _
      | refine LeO.ite ?_ ?_
      | refine LeO.bind ?_ (fun _ => ?_)
theorem view_File_Op_nil.mono : ∀ a0 a1 k, LeO (view_File_Op_nil.f k a0 a1) (view_File_Op_nil.f (k + 1) a0 a1) := by
  intro a0 a1 k
  have ih0 := view_File_Op_nil.mono_l k
  unfold view_File_Op_nil.f
  repeat' first
      | (with_reducible exact ih0 _ _ _)
      | (with_reducible exact LeO.refl _)
      | (with_reducible exact LeO.none _)
      | (with_reducible refine LeO.ite ?_ ?_)
      | (with_reducible refine LeO.bind ?_ (fun _ => ?_))
      | exact ih0 _ _ _
      | exact LeO.none _
      | refine LeO.ite ?_ ?_
      | refine LeO.bind ?_ (fun _ => ?_)
set_option maxHeartbeats 8000000 in
set_option maxRecDepth 100000 in
theorem view_File_Op_nil.calls (k : Nat) (a0 : Unit) (a1 : Int) (r : Int) (w : World) (h : view_File_Op_nil.f k a0 a1 = some r) :
    Calls Try.prog 13 #[.pointer none, .int .i64 a1] w fun e w' => e = .returned (.int .i64 r) ∧ Below w.heap.size w w' := by
  have HB := Aside0.mk (Below.refl w.heap.size w)
  have H : ((view_File_Own_nil.f a0 a1).bind fun t168 => (view_File_Op_nil.l0 k t168 (t168.length : Int) 0)) = some r := h
  clear h
  replace H := Option.bind_eq_some_iff.mp H
  obtain ⟨t168, A30, H⟩ := H
  replace H : (view_File_Op_nil.l0 k t168 (t168.length : Int) 0) = some r := H
  have A3 := Aside0.mk A30
  clear A30
  have H' := Aside0.mk H
  clear H
  go_enter Try.func13, Try.ntmps13
  go_wp2_with (first | ((with_reducible refine gate_callee (f := 38) rfl ?_); refine goesL_ (some 10) rfl rfl Try.func38 (by kernel_rfl) rfl #[.pointer none, .int .i64 a1] rfl (by (try simp only [List.map_toArray, List.map_cons, List.map_nil]); first | done | rfl | (simp only [List.length_drop, List.length_take]; rfl)) ?_; (with_reducible refine (view_File_Own_nil.calls a0 a1 t168 _ A3.out).mono ?_); rintro e w4 ⟨v169, rfl, ho0, hb⟩; refine ⟨_, rfl, ?_⟩; have n0_ := Aside0.mk (Kd.R_lower ho0 (below_size (by repeat (first | (with_reducible first | exact HB.out | apply below_alloc | apply pw_below_drewN | apply below_drew1) | exact HB.out)))); have n1_ := Aside0.mk (below_step (by repeat (first | (with_reducible first | exact HB.out | apply below_alloc | apply pw_below_drewN | apply below_drew1) | exact HB.out)) hb); clear HB; have HO170 := n0_; have HB := n1_; clear n0_ n1_; (try clear hb); (try clear hb2); (try clear hk); (try clear hi); (try clear ho0); obtain ⟨Ao5, co5, eo5⟩ := Kd.R_slice HO170.out; subst eo5))
  go_loopg [12] k (fun kq v12 w' => ∃ (x12_1 : Int), v12 = .int .i64 x12_1 ∧ Aside0 (view_File_Op_nil.l0 kq t168 (t168.length : Int) x12_1 = some r) ∧ Aside0 (kq ≤ k) ∧ Aside0 (Kd.R (Kd.int .i64) 3 w' w.heap.size (fun _ => True) (.slice Ao5 t168.length co5) t168) ∧ Aside0 (Below w.heap.size w w'))
  case atStart => exact ⟨(0), (by first | rfl | (simp; done) | (simp [*]; done)), H', ⟨Nat.le_refl _⟩, ⟨by (with_reducible repeat (first | apply Kd.R_alloc | apply Kd.R_drewN | apply Kd.R_drew)); exact HO170.out⟩, ⟨by repeat (first | (with_reducible first | exact HB.out | apply below_alloc | apply pw_below_drewN | apply below_drew1) | exact HB.out)⟩⟩
  case round =>
    clear H'
    try clear p2
    obtain ⟨x12_1, rfl, HA, HK1, HO_10, HB⟩ := hrel
    cases gk with
    | zero => exact absurd HA.out (by simp [view_File_Op_nil.l0])
    | succ k1 =>
      have H := HA.out
      clear HA
      simp only [view_File_Op_nil.l0] at H
      by_cases c6 : x12_1 < (t168.length : Int)
      · rw [if_pos c6] at H
        have c6b0 : decide (x12_1 < (t168.length : Int)) = true := decide_eq_true c6
        clear c6
        by_cases c7 : 0 ≤ x12_1
        · rw [if_pos c7] at H
          have c7b0 : decide (0 ≤ x12_1) = true := decide_eq_true c7
          clear c7
          by_cases c8 : x12_1 < (t168.length : Int)
          · rw [if_pos c8] at H
            have c8b0 : decide (x12_1 < (t168.length : Int)) = true := decide_eq_true c8
            clear c8
            exact absurd H (by simp)
          · rw [if_neg c8] at H
            exact absurd H (by simp)
        · rw [if_neg c7] at H
          exact absurd H (by simp)
      · rw [if_neg c6] at H
        have c6b0 : decide (x12_1 < (t168.length : Int)) = false := decide_eq_false c6
        clear c6
        obtain rfl := Option.some.inj H
        go_wp2
        go_ret
        exact ⟨by first | rfl | (simp [errW_none, errW_some, erT_no, erV_no, erT_at, erV_at] <;> rfl) | (simp [*, errW_none, errW_some, erT_no, erV_no, erT_at, erV_at] <;> rfl), by repeat (first | (with_reducible first | exact HB.out | apply below_alloc | apply pw_below_drewN | apply below_drew1) | exact HB.out)⟩

/-! ### scan_Text: function 46 -/
def scan_Text.f (l0 : List Int) (a1_0 : Int) (a1_1 : Int) (a1_2 : Int) (a1_3 : Bool) (a1_4 : Int) : Option (ByteArray) := if a1_1 < 0 then (some (⟨#[]⟩ : ByteArray)) else (if a1_1 > a1_2 then (some (⟨#[]⟩ : ByteArray)) else (if a1_2 > (l0.length : Int) then (some (⟨#[]⟩ : ByteArray)) else (if 0 ≤ a1_1 then (if a1_1 ≤ a1_2 then (if a1_2 ≤ (l0.length : Int) then (some (strOfNums ((l0.take (a1_2 : Int).toNat).drop (a1_1 : Int).toNat))) else (none)) else (none)) else (none))))
set_option maxHeartbeats 8000000 in
set_option maxRecDepth 100000 in
theorem scan_Text.calls (A0 : Option Addr) (c0 : Nat) (l0 : List Int) (a1_0 : Int) (a1_1 : Int) (a1_2 : Int) (a1_3 : Bool) (a1_4 : Int) (r : ByteArray) (w : World) (hr0 : Kd.C (Kd.int .u8) w A0 l0.length l0) (hc0 : l0.length ≤ c0) (h : scan_Text.f l0 a1_0 a1_1 a1_2 a1_3 a1_4 = some r) :
    Calls Try.prog 46 #[.slice A0 l0.length c0, .agg #[.int .i64 a1_0, .int .i64 a1_1, .int .i64 a1_2, .bool a1_3, .int .i64 a1_4]] w fun e w' => e = .returned (.string r) ∧ Below w.heap.size w w' := by
  have hu38 := Try.underlying38
  have HR0 := Aside0.mk hr0
  have HC0 := Aside0.mk hc0
  clear hr0 hc0
  have HB := Aside0.mk (Below.refl w.heap.size w)
  have H : (if a1_1 < 0 then (some (⟨#[]⟩ : ByteArray)) else (if a1_1 > a1_2 then (some (⟨#[]⟩ : ByteArray)) else (if a1_2 > (l0.length : Int) then (some (⟨#[]⟩ : ByteArray)) else (if 0 ≤ a1_1 then (if a1_1 ≤ a1_2 then (if a1_2 ≤ (l0.length : Int) then (some (strOfNums ((l0.take (a1_2 : Int).toNat).drop (a1_1 : Int).toNat))) else (none)) else (none)) else (none))))) = some r := h
  clear h
  by_cases c3 : a1_1 < 0
  · rw [if_pos c3] at H
    have c3b0 : decide (a1_1 < 0) = true := decide_eq_true c3
    clear c3
    obtain rfl := Option.some.inj H
    go_enter Try.func46, Try.ntmps46
    go_wp2_with (first | ((with_reducible refine gate_dst (N := 3) rfl ?_); (try (refine gate_guard (by rfl) ?_; dsimp only)); refine box_event ?hg (N := 3) ?hd (cs := #[.int .i64 a1_0, .int .i64 a1_1, .int .i64 a1_2, .bool a1_3, .int .i64 a1_4]) (t := 38) ?hr ?_; (case hd => rfl); (case hg => rfl); (case hr => first | (go_simp; done) | (go_simp; rfl)); intro gb172 hg w4 hbox hb; have n0_ := Aside0.mk (below_step (by repeat (first | (with_reducible first | exact HB.out | apply below_alloc | apply pw_below_drewN | apply below_drew1) | exact HB.out)) hb); have n1_ := Aside0.mk (hbox); have n2_ := Aside0.mk ((by rw [hg]; exact (below_size (by repeat (first | (with_reducible first | exact HB.out | apply below_alloc | apply pw_below_drewN | apply below_drew1) | exact HB.out))) : w.heap.size ≤ gb172)); have n3_ := n2_; clear HB; have HB := n0_; have BK172 := n1_; have GW172 := n2_; have GE172 := n3_; clear n0_ n1_ n2_ n3_; clear hb hbox hg; have hcz5_0 : w4.cell? ⟨gb172, 0, none⟩ = some (.int .i64 a1_0) := (blk_cell BK172.out 0).trans rfl; have hcz5_1 : w4.cell? ⟨gb172, 1, none⟩ = some (.int .i64 a1_1) := (blk_cell BK172.out 1).trans rfl; have hcz5_2 : w4.cell? ⟨gb172, 2, none⟩ = some (.int .i64 a1_2) := (blk_cell BK172.out 2).trans rfl; have hcz5_3 : w4.cell? ⟨gb172, 3, none⟩ = some (.bool a1_3) := (blk_cell BK172.out 3).trans rfl; have hcz5_4 : w4.cell? ⟨gb172, 4, none⟩ = some (.int .i64 a1_4) := (blk_cell BK172.out 4).trans rfl; have hfz5_0 := blk_frozen BK172.out 0; have hfz5_1 := blk_frozen BK172.out 1; have hfz5_2 := blk_frozen BK172.out 2; have hfz5_3 := blk_frozen BK172.out 3; have hfz5_4 := blk_frozen BK172.out 4))
    go_ret
    exact ⟨by first | rfl | (simp [errW_none, errW_some, erT_no, erV_no, erT_at, erV_at] <;> rfl) | (simp [*, errW_none, errW_some, erT_no, erV_no, erT_at, erV_at] <;> rfl), by repeat (first | (with_reducible first | exact HB.out | apply below_alloc | apply pw_below_drewN | apply below_drew1 | refine below_set ?_ GE172.out) | exact HB.out)⟩
  · rw [if_neg c3] at H
    have c3b0 : decide (a1_1 < 0) = false := decide_eq_false c3
    clear c3
    by_cases c6 : a1_1 > a1_2
    · rw [if_pos c6] at H
      have c6b0 : decide (a1_2 < a1_1) = true := decide_eq_true c6
      clear c6
      obtain rfl := Option.some.inj H
      go_enter Try.func46, Try.ntmps46
      go_wp2_with (first | ((with_reducible refine gate_dst (N := 3) rfl ?_); (try (refine gate_guard (by rfl) ?_; dsimp only)); refine box_event ?hg (N := 3) ?hd (cs := #[.int .i64 a1_0, .int .i64 a1_1, .int .i64 a1_2, .bool a1_3, .int .i64 a1_4]) (t := 38) ?hr ?_; (case hd => rfl); (case hg => rfl); (case hr => first | (go_simp; done) | (go_simp; rfl)); intro gb172 hg w7 hbox hb; have n0_ := Aside0.mk (below_step (by repeat (first | (with_reducible first | exact HB.out | apply below_alloc | apply pw_below_drewN | apply below_drew1) | exact HB.out)) hb); have n1_ := Aside0.mk (hbox); have n2_ := Aside0.mk ((by rw [hg]; exact (below_size (by repeat (first | (with_reducible first | exact HB.out | apply below_alloc | apply pw_below_drewN | apply below_drew1) | exact HB.out))) : w.heap.size ≤ gb172)); have n3_ := n2_; clear HB; have HB := n0_; have BK172 := n1_; have GW172 := n2_; have GE172 := n3_; clear n0_ n1_ n2_ n3_; clear hb hbox hg; have hcz8_0 : w7.cell? ⟨gb172, 0, none⟩ = some (.int .i64 a1_0) := (blk_cell BK172.out 0).trans rfl; have hcz8_1 : w7.cell? ⟨gb172, 1, none⟩ = some (.int .i64 a1_1) := (blk_cell BK172.out 1).trans rfl; have hcz8_2 : w7.cell? ⟨gb172, 2, none⟩ = some (.int .i64 a1_2) := (blk_cell BK172.out 2).trans rfl; have hcz8_3 : w7.cell? ⟨gb172, 3, none⟩ = some (.bool a1_3) := (blk_cell BK172.out 3).trans rfl; have hcz8_4 : w7.cell? ⟨gb172, 4, none⟩ = some (.int .i64 a1_4) := (blk_cell BK172.out 4).trans rfl; have hfz8_0 := blk_frozen BK172.out 0; have hfz8_1 := blk_frozen BK172.out 1; have hfz8_2 := blk_frozen BK172.out 2; have hfz8_3 := blk_frozen BK172.out 3; have hfz8_4 := blk_frozen BK172.out 4))
      go_ret
      exact ⟨by first | rfl | (simp [errW_none, errW_some, erT_no, erV_no, erT_at, erV_at] <;> rfl) | (simp [*, errW_none, errW_some, erT_no, erV_no, erT_at, erV_at] <;> rfl), by repeat (first | (with_reducible first | exact HB.out | apply below_alloc | apply pw_below_drewN | apply below_drew1 | refine below_set ?_ GE172.out) | exact HB.out)⟩
    · rw [if_neg c6] at H
      have c6b0 : decide (a1_2 < a1_1) = false := decide_eq_false c6
      clear c6
      by_cases c9 : a1_2 > (l0.length : Int)
      · rw [if_pos c9] at H
        have c9b0 : decide ((l0.length : Int) < a1_2) = true := decide_eq_true c9
        clear c9
        obtain rfl := Option.some.inj H
        go_enter Try.func46, Try.ntmps46
        go_wp2_with (first | ((with_reducible refine gate_dst (N := 3) rfl ?_); (try (refine gate_guard (by rfl) ?_; dsimp only)); refine box_event ?hg (N := 3) ?hd (cs := #[.int .i64 a1_0, .int .i64 a1_1, .int .i64 a1_2, .bool a1_3, .int .i64 a1_4]) (t := 38) ?hr ?_; (case hd => rfl); (case hg => rfl); (case hr => first | (go_simp; done) | (go_simp; rfl)); intro gb172 hg w10 hbox hb; have n0_ := Aside0.mk (below_step (by repeat (first | (with_reducible first | exact HB.out | apply below_alloc | apply pw_below_drewN | apply below_drew1) | exact HB.out)) hb); have n1_ := Aside0.mk (hbox); have n2_ := Aside0.mk ((by rw [hg]; exact (below_size (by repeat (first | (with_reducible first | exact HB.out | apply below_alloc | apply pw_below_drewN | apply below_drew1) | exact HB.out))) : w.heap.size ≤ gb172)); have n3_ := n2_; clear HB; have HB := n0_; have BK172 := n1_; have GW172 := n2_; have GE172 := n3_; clear n0_ n1_ n2_ n3_; clear hb hbox hg; have hcz11_0 : w10.cell? ⟨gb172, 0, none⟩ = some (.int .i64 a1_0) := (blk_cell BK172.out 0).trans rfl; have hcz11_1 : w10.cell? ⟨gb172, 1, none⟩ = some (.int .i64 a1_1) := (blk_cell BK172.out 1).trans rfl; have hcz11_2 : w10.cell? ⟨gb172, 2, none⟩ = some (.int .i64 a1_2) := (blk_cell BK172.out 2).trans rfl; have hcz11_3 : w10.cell? ⟨gb172, 3, none⟩ = some (.bool a1_3) := (blk_cell BK172.out 3).trans rfl; have hcz11_4 : w10.cell? ⟨gb172, 4, none⟩ = some (.int .i64 a1_4) := (blk_cell BK172.out 4).trans rfl; have hfz11_0 := blk_frozen BK172.out 0; have hfz11_1 := blk_frozen BK172.out 1; have hfz11_2 := blk_frozen BK172.out 2; have hfz11_3 := blk_frozen BK172.out 3; have hfz11_4 := blk_frozen BK172.out 4))
        go_ret
        exact ⟨by first | rfl | (simp [errW_none, errW_some, erT_no, erV_no, erT_at, erV_at] <;> rfl) | (simp [*, errW_none, errW_some, erT_no, erV_no, erT_at, erV_at] <;> rfl), by repeat (first | (with_reducible first | exact HB.out | apply below_alloc | apply pw_below_drewN | apply below_drew1 | refine below_set ?_ GE172.out) | exact HB.out)⟩
      · rw [if_neg c9] at H
        have c9b0 : decide ((l0.length : Int) < a1_2) = false := decide_eq_false c9
        clear c9
        by_cases c12 : 0 ≤ a1_1
        · rw [if_pos c12] at H
          have c12b0 := eq_true c12
          have c12b1 : decide (0 ≤ a1_1) = true := decide_eq_true c12
          clear c12
          by_cases c13 : a1_1 ≤ a1_2
          · rw [if_pos c13] at H
            have c13b0 := eq_true c13
            have c13b1 : decide (a1_1 ≤ a1_2) = true := decide_eq_true c13
            clear c13
            by_cases c14 : a1_2 ≤ (l0.length : Int)
            · rw [if_pos c14] at H
              have c14b0 := eq_true c14
              have c14b1 : decide (a1_2 ≤ (l0.length : Int)) = true := decide_eq_true c14
              clear c14
              obtain ⟨y173, hy173⟩ : ∃ y_ : List Int, y_ = ((l0.take (a1_2 : Int).toNat).drop (a1_1 : Int).toNat) := ⟨_, rfl⟩
              replace H : (some (strOfNums y173)) = some r := by first | (rw [hy173]; with_reducible exact H) | (have H2_ := (Option.bind_some _ _).symm.trans H; rw [hy173]; with_reducible exact H2_) | (have H2_ := (Option.bind_some _ _).symm.trans H; with_reducible exact H2_) | with_reducible exact H | (rw [hy173]; exact H) | exact H
              have Ny173 := Aside0.mk hy173
              clear hy173
              obtain rfl := Option.some.inj H
              go_enter Try.func46, Try.ntmps46
              go_wp2_with (first | ((with_reducible refine gate_dst (N := 3) rfl ?_); (try (refine gate_guard (by rfl) ?_; dsimp only)); refine box_event ?hg (N := 3) ?hd (cs := #[.int .i64 a1_0, .int .i64 a1_1, .int .i64 a1_2, .bool a1_3, .int .i64 a1_4]) (t := 38) ?hr ?_; (case hd => rfl); (case hg => rfl); (case hr => first | (go_simp; done) | (go_simp; rfl)); intro gb172 hg w15 hbox hb; have n0_ := Aside0.mk (below_step (by repeat (first | (with_reducible first | exact HB.out | apply below_alloc | apply pw_below_drewN | apply below_drew1) | exact HB.out)) hb); have n1_ := Aside0.mk (hbox); have n2_ := Aside0.mk ((by rw [hg]; exact (below_size (by repeat (first | (with_reducible first | exact HB.out | apply below_alloc | apply pw_below_drewN | apply below_drew1) | exact HB.out))) : w.heap.size ≤ gb172)); have n3_ := n2_; clear HB; have HB := n0_; have BK172 := n1_; have GW172 := n2_; have GE172 := n3_; clear n0_ n1_ n2_ n3_; clear hb hbox hg; have hcz16_0 : w15.cell? ⟨gb172, 0, none⟩ = some (.int .i64 a1_0) := (blk_cell BK172.out 0).trans rfl; have hcz16_1 : w15.cell? ⟨gb172, 1, none⟩ = some (.int .i64 a1_1) := (blk_cell BK172.out 1).trans rfl; have hcz16_2 : w15.cell? ⟨gb172, 2, none⟩ = some (.int .i64 a1_2) := (blk_cell BK172.out 2).trans rfl; have hcz16_3 : w15.cell? ⟨gb172, 3, none⟩ = some (.bool a1_3) := (blk_cell BK172.out 3).trans rfl; have hcz16_4 : w15.cell? ⟨gb172, 4, none⟩ = some (.int .i64 a1_4) := (blk_cell BK172.out 4).trans rfl; have hfz16_0 := blk_frozen BK172.out 0; have hfz16_1 := blk_frozen BK172.out 1; have hfz16_2 := blk_frozen BK172.out 2; have hfz16_3 := blk_frozen BK172.out 3; have hfz16_4 := blk_frozen BK172.out 4; have q17 : (a1_2 : Int) ≤ ((l0.length : Int) : Int) := of_decide_eq_true (by first | (with_reducible assumption) | assumption); obtain ⟨i017, hi017, _, hsz17, _⟩ := info_parts info5; have hroom17 : l0.length ≤ c0 := HC0.out; have hC17 : Kd.C (Kd.int .u8) _ A0 l0.length l0 := HR0.out; have ql17 : (a1_1 : Int) ≤ (a1_2 : Int) := of_decide_eq_true (by first | (with_reducible assumption) | assumption); have q017 : (0 : Int) ≤ (a1_1 : Int) := of_decide_eq_true (by first | (with_reducible assumption) | assumption); have hcut17 := cut_mid (P := Try.prog) 22 5 .i64 .i64 Try.underlying22 hi017 1 hsz17 A0 l0.length c0 a1_1 a1_2 q017 ql17 q17 hroom17; have hr17 := Kd.C_mid (lo := (a1_1 : Int).toNat) (hi := (a1_2 : Int).toNat) (c := c0) hC17 (by omega) (by omega) hroom17; obtain ⟨A17, hA17⟩ : ∃ A1, A1 = (if c0 = (a1_1 : Int).toNat then A0 else (A0 : Option Addr).map (·.add ((a1_1 : Int).toNat * 1))) := ⟨_, rfl⟩; obtain ⟨c17, hc17⟩ : ∃ c1, c1 = c0 - (a1_1 : Int).toNat := ⟨_, rfl⟩; have hy17 : y173.length = (a1_2 : Int).toNat - (a1_1 : Int).toNat := (by rw [Ny173.out, List.length_drop, List.length_take] <;> omega); rw [show ((l0).take (a1_2 : Int).toNat).drop (a1_1 : Int).toNat = y173 from Ny173.out.symm] at hr17; replace hr17 : Kd.C (Kd.int .u8) _ A17 y173.length y173 := (by rw [hA17]; exact hr17); rw [← hy17, ← hA17, ← hc17] at hcut17; have HR176 := Aside0.mk hr17; have HC176 := Aside0.mk (show y173.length ≤ c17 from by rw [hy17, hc17]; exact Nat.sub_le_sub_right (Nat.le_trans (by omega) hroom17) _); clear hr17 hC17 hroom17 hi017 hsz17 hc17; have KY17 := Aside0.mk hy17; have KA17 := Aside0.mk hA17; clear hy17 hA17; replace q17 := eq_true q17; have hcv18 := Kd.C_string (P := Try.prog) (A := A17) (c := c17) Try.underlying22 Try.underlying5 Try.underlying9 (Kd.C_below HR176.out HB.out)))
              go_ret
              exact ⟨by first | rfl | (simp [errW_none, errW_some, erT_no, erV_no, erT_at, erV_at] <;> rfl) | (simp [*, errW_none, errW_some, erT_no, erV_no, erT_at, erV_at] <;> rfl), by repeat (first | (with_reducible first | exact HB.out | apply below_alloc | apply pw_below_drewN | apply below_drew1 | refine below_set ?_ GE172.out) | exact HB.out)⟩
            · rw [if_neg c14] at H
              exact absurd H (by simp)
          · rw [if_neg c13] at H
            exact absurd H (by simp)
        · rw [if_neg c12] at H
          exact absurd H (by simp)

end Go.Proofs.Ytnpgadfoohjlnaa.QV
