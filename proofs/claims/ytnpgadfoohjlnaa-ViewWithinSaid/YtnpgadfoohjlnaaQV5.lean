/- Where a Lean function of this text answers, the Go function of its name comes to that answer: no other condition. Written by a program of this session out of the translation; Lean checks it. -/
import Derived.Test.YtnpgadfoohjlnaaQV0
namespace Go.Proofs.Ytnpgadfoohjlnaa.QV
open Go.RowKit Go.Proofs.YtnpgadfoohjlnaaW.PrintWords Go.Proofs.YtnpgadfoohjlnaaW.PrintLast Go.Proofs.YtnpgadfoohjlnaaW.PrintMore Go.Proofs.YtnpgadfoohjlnaaW.PrintX
attribute [local go_sem] max2_int min2_int max_two min_two max_three min_three max_four min_four   -- for this text's walks alone
set_option linter.unusedVariables false
set_option linter.unusedSimpArgs false

/-! ### view_File_Span: function 11 -/
def view_File_Span.j0 : Nat → List (S72) → Int → Bool → Option (Int × Int)
  | 0, _, _, _ => none
  | k + 1, x0, x1, x22 => if x22 = true then (some (0, 0)) else (if 0 < (x0.length : Int) then (if 0 ≤ x1 then (if x1 < (((rd_T72 x0 0).f2.f0).length : Int) then (if ((rd_T44 ((rd_T72 x0 0).f2.f0) x1).f1) < ((rd_T44 ((rd_T72 x0 0).f2.f0) x1).f2) then (if 0 ≤ ((rd_T44 ((rd_T72 x0 0).f2.f0) x1).f1) then (if ((rd_T44 ((rd_T72 x0 0).f2.f0) x1).f1) < (((rd_T72 x0 0).f1).length : Int) then (if 0 ≤ (wrap64 (((rd_T44 ((rd_T72 x0 0).f2.f0) x1).f2) - 1)) then (if (wrap64 (((rd_T44 ((rd_T72 x0 0).f2.f0) x1).f2) - 1)) < (((rd_T72 x0 0).f1).length : Int) then (some ((rd_T38 ((rd_T72 x0 0).f1) ((rd_T44 ((rd_T72 x0 0).f2.f0) x1).f1)).f1, (rd_T38 ((rd_T72 x0 0).f1) (wrap64 (((rd_T44 ((rd_T72 x0 0).f2.f0) x1).f2) - 1))).f2)) else (none)) else (none)) else (none)) else (none)) else (if ((rd_T44 ((rd_T72 x0 0).f2.f0) x1).f1) < (((rd_T72 x0 0).f1).length : Int) then (if 0 ≤ ((rd_T44 ((rd_T72 x0 0).f2.f0) x1).f1) then (some ((rd_T38 ((rd_T72 x0 0).f1) ((rd_T44 ((rd_T72 x0 0).f2.f0) x1).f1)).f1, (rd_T38 ((rd_T72 x0 0).f1) ((rd_T44 ((rd_T72 x0 0).f2.f0) x1).f1)).f1)) else (none)) else (if (((rd_T72 x0 0).f1).length : Int) > 0 then (if 0 ≤ (wrap64 ((((rd_T72 x0 0).f1).length : Int) - 1)) then (if (wrap64 ((((rd_T72 x0 0).f1).length : Int) - 1)) < (((rd_T72 x0 0).f1).length : Int) then (some ((rd_T38 ((rd_T72 x0 0).f1) (wrap64 ((((rd_T72 x0 0).f1).length : Int) - 1))).f2, (rd_T38 ((rd_T72 x0 0).f1) (wrap64 ((((rd_T72 x0 0).f1).length : Int) - 1))).f2)) else (none)) else (none)) else (some (0, 0))))) else (none)) else (none)) else (none))
def view_File_Span.f (k : Nat) (l0 : List (S72)) (a1 : Int) : Option (Int × Int) := if 0 < (l0.length : Int) then (if a1 < 0 then (view_File_Span.j0 k l0 a1 true) else (view_File_Span.j0 k l0 a1 (decide (a1 ≥ (((rd_T72 l0 0).f2.f0).length : Int))))) else (none)
theorem view_File_Span.mono_l : ∀ k, (∀ y0 y1 y2, LeO (view_File_Span.j0 k y0 y1 y2) (view_File_Span.j0 (k + 1) y0 y1 y2))
  | 0 => fun _ _ _ r h => by simp [view_File_Span.j0] at h
  | k + 1 => by
    have ih0 := view_File_Span.mono_l k
    · intro y0 y1 y2
      unfold view_File_Span.j0
      repeat' first
      | (with_reducible exact ih0 _ _ _)
      | (with_reducible exact LeO.refl _)
      | (with_reducible exact LeO.none _)
      | (with_reducible refine LeO.ite ?_ ?_)
      | (with_reducible refine LeO.bind ?_ (fun _ => ?_))
      | exact ih0 _ _ _
      | exact LeO.none _
      | refine LeO.ite ?_ ?_
      | refine LeO.bind ?_ (fun _ => ?_)
theorem view_File_Span.mono : ∀ a0 a1 k, LeO (view_File_Span.f k a0 a1) (view_File_Span.f (k + 1) a0 a1) := by
  intro a0 a1 k
  have ih0 := view_File_Span.mono_l k
  unfold view_File_Span.f
  repeat' first
      | (with_reducible exact ih0 _ _ _)
      | (with_reducible exact LeO.refl _)
      | (with_reducible exact LeO.none _)
      | (with_reducible refine LeO.ite ?_ ?_)
      | (with_reducible refine LeO.bind ?_ (fun _ => ?_))
      | exact ih0 _ _ _
      | exact LeO.none _
      | refine LeO.ite ?_ ?_
      | refine LeO.bind ?_ (fun _ => ?_)
def view_File_Span.T5 : Bool × List (List Nat × List Nat) := (true, [([], []), ([0], [0]), ([1], [1]), ([2], [2]), ([], []), ([4], [4]), ([3, 5], [3, 5]), ([6], [6]), ([7], [7]), ([], []), ([9], [9]), ([10], [10]), ([11], [11]), ([], []), ([13], [13]), ([14], [14]), ([12, 15], [12, 15]), ([16], [16]), ([17], [17]), ([8, 18], [8, 18]), ([19, 0, 1, 2, 3, 4, 5, 6, 7, 8, 9, 10, 11, 12, 13, 14, 15, 16, 17, 18, 19], [19])])
def view_File_Span.B5 : List Nat := [0, 1, 3, 7, 0, 16, 63, 127, 255, 0, 512, 1536, 3584, 0, 8192, 24576, 65024, 130560, 261632, 524287, 1048575]
theorem view_File_Span.tab5 : rtab .any (opsOf Try.f11 5) = view_File_Span.T5 := by kernel_rfl
theorem view_File_Span.bits5 : waitsOk view_File_Span.T5.2 view_File_Span.B5 = true := by kernel_rfl
def view_File_Span.T6 : Bool × List (List Nat × List Nat) := (true, [([], []), ([0], [0]), ([], []), ([2], [2]), ([3], [3]), ([4], [4]), ([5], [5]), ([1, 6], [1, 6]), ([7], [7])])
def view_File_Span.B6 : List Nat := [0, 1, 0, 4, 12, 28, 60, 127, 255]
theorem view_File_Span.tab6 : rtab .any (opsOf Try.f11 6) = view_File_Span.T6 := by kernel_rfl
theorem view_File_Span.bits6 : waitsOk view_File_Span.T6.2 view_File_Span.B6 = true := by kernel_rfl
def view_File_Span.T7 : Bool × List (List Nat × List Nat) := (true, [([], []), ([0], [0]), ([1], [1]), ([2], [2]), ([], []), ([4], [4]), ([3, 5], [3, 5]), ([6], [6]), ([7], [7]), ([], []), ([9], [9]), ([10], [10]), ([11], [11]), ([], []), ([13], [13]), ([12, 14], [12, 14]), ([15], [15]), ([16], [16]), ([8, 17], [8, 17]), ([18, 0, 1, 2, 3, 4, 5, 6, 7, 8, 9, 10, 11, 12, 13, 14, 15, 16, 17, 18], [18])])
def view_File_Span.B7 : List Nat := [0, 1, 3, 7, 0, 16, 63, 127, 255, 0, 512, 1536, 3584, 0, 8192, 32256, 65024, 130560, 262143, 524287]
theorem view_File_Span.tab7 : rtab .any (opsOf Try.f11 7) = view_File_Span.T7 := by kernel_rfl
theorem view_File_Span.bits7 : waitsOk view_File_Span.T7.2 view_File_Span.B7 = true := by kernel_rfl
def view_File_Span.T9 : Bool × List (List Nat × List Nat) := (true, [([], []), ([0], [0]), ([1], [1]), ([2], [2]), ([], []), ([4], [4]), ([5], [5]), ([6], [6]), ([7], [7]), ([8], [8]), ([3, 9], [3, 9]), ([10], [10]), ([11], [11]), ([12, 0, 1, 2, 3, 4, 5, 6, 7, 8, 9, 10, 11, 12], [12])])
def view_File_Span.B9 : List Nat := [0, 1, 3, 7, 0, 16, 48, 112, 240, 496, 1023, 2047, 4095, 8191]
theorem view_File_Span.tab9 : rtab .any (opsOf Try.f11 9) = view_File_Span.T9 := by kernel_rfl
theorem view_File_Span.bits9 : waitsOk view_File_Span.T9.2 view_File_Span.B9 = true := by kernel_rfl
set_option maxHeartbeats 8000000 in
set_option maxRecDepth 100000 in
theorem view_File_Span.calls (k : Nat) (A0 : Option Addr) (c0 : Nat) (l0 : List (S72)) (a1 : Int) (r1 : Int) (r2 : Int) (w : World) (hr0 : Kd.C k72 w A0 l0.length l0) (hc0 : l0.length ≤ c0) (h : view_File_Span.f k l0 a1 = some (r1, r2)) :
    Calls Try.prog 11 #[.pointer A0, .int .i64 a1] w fun e w' => e = .returned (.agg #[.int .i64 r1, .int .i64 r2]) ∧ Below w.heap.size w w' := by
  have hu40 := Try.underlying40
  have hu44 := Try.underlying44
  have HR0 := Aside0.mk hr0
  have HC0 := Aside0.mk hc0
  clear hr0 hc0
  have HB := Aside0.mk (Below.refl w.heap.size w)
  have H : (if 0 < (l0.length : Int) then (if a1 < 0 then (view_File_Span.j0 k l0 a1 true) else (view_File_Span.j0 k l0 a1 (decide (a1 ≥ (((rd_T72 l0 0).f2.f0).length : Int))))) else (none)) = some (r1, r2) := h
  clear h
  by_cases c3 : 0 < (l0.length : Int)
  · rw [if_pos c3] at H
    have c3b0 : decide (0 < (l0.length : Int)) = true := decide_eq_true c3
    have c3b1 : decide (0 < l0.length) = true := decide_eq_true (by omega)
    clear c3
    have HC4 := Aside0.mk H
    clear H
    have p135 : 0 ≤ (0 : Int) := (by omega)
    have q135 : 0 < (l0.length : Int) := of_decide_eq_true (by first | (with_reducible assumption) | assumption)
    obtain ⟨ad135, A135_0, c135_0, A135_1, c135_1, A135_2, c135_2, e135, hx135_0, hx135_1, hx135_2, hl135_0, hi135_0, hl135_1, hi135_1, hl135_2, hi135_2⟩ := at_T72 HR0.out 0 p135 q135
    cases e135
    have qi135 : (0 < l0.length) = True := eq_true (by omega)
    (try rw [show ((0 : Int)).toNat = 0 from rfl] at hx135_0)
    (try rw [show 0 * 3 = 0 from rfl] at hx135_0)
    (try rw [Addr.add_zero'] at hx135_0)
    (try rw [show ((0 : Int)).toNat = 0 from rfl] at hx135_1)
    (try rw [show 0 * 3 = 0 from rfl] at hx135_1)
    (try rw [Addr.add_zero'] at hx135_1)
    (try rw [show ((0 : Int)).toNat = 0 from rfl] at hx135_2)
    (try rw [show 0 * 3 = 0 from rfl] at hx135_2)
    (try rw [Addr.add_zero'] at hx135_2)
    have HR135_0 := Aside0.mk hi135_0
    have HC135_0 := Aside0.mk hl135_0
    clear hi135_0 hl135_0
    have HR135_1 := Aside0.mk hi135_1
    have HC135_1 := Aside0.mk hl135_1
    clear hi135_1 hl135_1
    have HR135_2 := Aside0.mk hi135_2
    have HC135_2 := Aside0.mk hl135_2
    clear hi135_2 hl135_2
    replace p135 := eq_true p135
    replace q135 := eq_true q135
    go_enter Try.func11, Try.ntmps11
    go_upto_region 1 with (first | ((with_reducible refine gate_dst (N := 4) rfl ?_); (try (refine gate_guard (by rfl) ?_; dsimp only)); refine box_event ?hg (N := 4) ?hd (cs := #[.int .i64 0, .int .i64 0]) (t := 40) ?hr ?_; (case hd => rfl); (case hg => rfl); (case hr => first | (go_simp; done) | (go_simp; rfl)); intro gb136 hg w5 hbox hb; have n0_ := Aside0.mk (below_step (by repeat (first | (with_reducible first | exact HB.out | apply below_alloc | apply pw_below_drewN | apply below_drew1) | exact HB.out)) hb); have n1_ := Aside0.mk (hbox); have n2_ := Aside0.mk ((by rw [hg]; exact (below_size (by repeat (first | (with_reducible first | exact HB.out | apply below_alloc | apply pw_below_drewN | apply below_drew1) | exact HB.out))) : w.heap.size ≤ gb136)); have n3_ := n2_; clear HB; have HB := n0_; have BK136 := n1_; have GW136 := n2_; have GE136 := n3_; clear n0_ n1_ n2_ n3_; clear hb hbox hg))
    (try simp only [Act.put, List.setIfInBounds_toArray, List.set_cons_zero, List.set_cons_succ])
    go_cut [22] (fun v22 wc => ∃ (kq : Nat) (x22_3 : Bool), v22 = .bool x22_3 ∧ Aside0 (view_File_Span.j0 kq l0 a1 x22_3 = some (r1, r2)) ∧ Aside0 (kq ≤ k) ∧ Aside0 (wc.heap[gb136]? = some (.cells #[.int .i64 0, .int .i64 0] 40 (0, 0))) ∧ Aside0 (Below w.heap.size w wc))
    case first =>
      have H := HC4.out
      clear HC4
      by_cases c6 : a1 < 0
      · rw [if_pos c6] at H
        have c6b0 : decide (a1 < 0) = true := decide_eq_true c6
        clear c6
        (first | rw [c6b0] | (simp only [i64_w, i32_w]; rw [c6b0]) | skip)
        have H' := Aside0.mk H
        clear H
        go_wp2
        go_meet
        case rel => exact ⟨_, (true), (by first | rfl | (simp; done) | (simp [*]; done)), H', ⟨by first | omega | exact Nat.le_refl _⟩, ⟨by (with_reducible repeat (first | refine blk_drewN ?_ _ | refine blk_drew ?_ | refine blk_alloc ?_ _)); exact BK136.out⟩, ⟨by repeat (first | (with_reducible first | exact HB.out | apply below_alloc | apply pw_below_drewN | apply below_drew1 | refine below_set ?_ GE136.out) | exact HB.out)⟩⟩
      · rw [if_neg c6] at H
        have c6b0 : decide (a1 < 0) = false := decide_eq_false c6
        clear c6
        (first | rw [c6b0] | (simp only [i64_w, i32_w]; rw [c6b0]) | skip)
        have H' := Aside0.mk H
        clear H
        have p137 : 0 ≤ (0 : Int) := (by omega)
        have q137 : 0 < (l0.length : Int) := of_decide_eq_true (by first | (with_reducible assumption) | assumption)
        obtain ⟨ad137, A137_0, c137_0, A137_1, c137_1, A137_2, c137_2, e137, hx137_0, hx137_1, hx137_2, hl137_0, hi137_0, hl137_1, hi137_1, hl137_2, hi137_2⟩ := at_T72 HR0.out 0 p137 q137
        obtain rfl : ad135 = ad137 := (by injection e137)
        have qi137 : (0 < l0.length) = True := eq_true (by omega)
        (try rw [show ((0 : Int)).toNat = 0 from rfl] at hx137_0)
        (try rw [show 0 * 3 = 0 from rfl] at hx137_0)
        (try rw [Addr.add_zero'] at hx137_0)
        (try rw [show ((0 : Int)).toNat = 0 from rfl] at hx137_1)
        (try rw [show 0 * 3 = 0 from rfl] at hx137_1)
        (try rw [Addr.add_zero'] at hx137_1)
        (try rw [show ((0 : Int)).toNat = 0 from rfl] at hx137_2)
        (try rw [show 0 * 3 = 0 from rfl] at hx137_2)
        (try rw [Addr.add_zero'] at hx137_2)
        replace hx137_0 := (HB.out.cell (World.block_lt_of_cell? w _ hx137_0)).trans hx137_0
        replace hx137_1 := (HB.out.cell (World.block_lt_of_cell? w _ hx137_1)).trans hx137_1
        replace hx137_2 := (HB.out.cell (World.block_lt_of_cell? w _ hx137_2)).trans hx137_2
        have HR137_0 := Aside0.mk hi137_0
        have HC137_0 := Aside0.mk hl137_0
        clear hi137_0 hl137_0
        have HR137_1 := Aside0.mk hi137_1
        have HC137_1 := Aside0.mk hl137_1
        clear hi137_1 hl137_1
        have HR137_2 := Aside0.mk hi137_2
        have HC137_2 := Aside0.mk hl137_2
        clear hi137_2 hl137_2
        replace p137 := eq_true p137
        replace q137 := eq_true q137
        go_wp2
        go_meet
        case rel => exact ⟨_, (decide (a1 ≥ (((rd_T72 l0 0).f2.f0).length : Int))), (by first | rfl | (simp; done) | (simp [*]; done)), H', ⟨by first | omega | exact Nat.le_refl _⟩, ⟨by (with_reducible repeat (first | refine blk_drewN ?_ _ | refine blk_drew ?_ | refine blk_alloc ?_ _)); exact BK136.out⟩, ⟨by repeat (first | (with_reducible first | exact HB.out | apply below_alloc | apply pw_below_drewN | apply below_drew1 | refine below_set ?_ GE136.out) | exact HB.out)⟩⟩
    case rest =>
      clear HC4
      try clear c1
      try clear p1
      try clear q1
      try clear hx1
      try clear qi1
      try clear p2
      try clear c3
      try clear c3b0
      try clear c3b1
      try clear c6
      try clear c6b0
      try clear hx135_0
      try clear hx135_1
      try clear hx135_2
      try clear hx137_0
      try clear hx137_1
      try clear hx137_2
      try clear p135
      try clear p137
      try clear q135
      try clear q137
      obtain ⟨kq, x22_3, rfl, HA, HJ3, BK136, HB⟩ := hcut
      cases kq with
      | zero => exact absurd HA.out (by simp [view_File_Span.j0])
      | succ kj3 =>
        have H := HA.out
        clear HA
        simp only [view_File_Span.j0] at H
        by_cases c7 : x22_3 = true
        · subst c7
          have H1 : (some (0, 0)) = some (r1, r2) := by rw [if_pos rfl] at H; exact H
          clear H
          have H := H1
          clear H1
          simp only [Option.some.injEq, Prod.mk.injEq] at H
          obtain ⟨rfl, rfl⟩ := H
          have hcz8_0 : wc.cell? ⟨gb136, 0, none⟩ = some (.int .i64 0) := (blk_cell BK136.out 0).trans rfl
          have hcz8_1 : wc.cell? ⟨gb136, 1, none⟩ = some (.int .i64 0) := (blk_cell BK136.out 1).trans rfl
          have hfz8_0 := blk_frozen BK136.out 0
          have hfz8_1 := blk_frozen BK136.out 1
          go_wp2
          refine bodyPost_ret (results_cell_row rfl _ _ gb136 40 #[.int .i64 0, .int .i64 0] (0, 0) _ rfl (by (with_reducible repeat (first | refine blk_drewN ?_ _ | refine blk_drew ?_ | refine blk_alloc ?_ _)); refine blk_put (cs := #[.int .i64 0, .int .i64 0]) ?_ 1 _ rfl; (with_reducible repeat (first | refine blk_drewN ?_ _ | refine blk_drew ?_ | refine blk_alloc ?_ _)); refine blk_put (cs := #[.int .i64 0, .int .i64 0]) ?_ 0 _ rfl; (with_reducible repeat (first | refine blk_drewN ?_ _ | refine blk_drew ?_ | refine blk_alloc ?_ _)); exact BK136.out) Try.underlying40 rfl (by kernel_rfl)) rfl ?_
          exact ⟨by first | rfl | (simp [errW_none, errW_some, erT_no, erV_no, erT_at, erV_at] <;> rfl) | (simp [*, errW_none, errW_some, erT_no, erV_no, erT_at, erV_at] <;> rfl), by repeat (first | (with_reducible first | exact HB.out | apply below_alloc | apply pw_below_drewN | apply below_drew1 | refine below_set ?_ GE136.out) | exact HB.out)⟩
        · replace c7 := Bool.eq_false_iff.mpr c7
          subst c7
          have H1 : (if 0 < (l0.length : Int) then (if 0 ≤ a1 then (if a1 < (((rd_T72 l0 0).f2.f0).length : Int) then (if ((rd_T44 ((rd_T72 l0 0).f2.f0) a1).f1) < ((rd_T44 ((rd_T72 l0 0).f2.f0) a1).f2) then (if 0 ≤ ((rd_T44 ((rd_T72 l0 0).f2.f0) a1).f1) then (if ((rd_T44 ((rd_T72 l0 0).f2.f0) a1).f1) < (((rd_T72 l0 0).f1).length : Int) then (if 0 ≤ (wrap64 (((rd_T44 ((rd_T72 l0 0).f2.f0) a1).f2) - 1)) then (if (wrap64 (((rd_T44 ((rd_T72 l0 0).f2.f0) a1).f2) - 1)) < (((rd_T72 l0 0).f1).length : Int) then (some ((rd_T38 ((rd_T72 l0 0).f1) ((rd_T44 ((rd_T72 l0 0).f2.f0) a1).f1)).f1, (rd_T38 ((rd_T72 l0 0).f1) (wrap64 (((rd_T44 ((rd_T72 l0 0).f2.f0) a1).f2) - 1))).f2)) else (none)) else (none)) else (none)) else (none)) else (if ((rd_T44 ((rd_T72 l0 0).f2.f0) a1).f1) < (((rd_T72 l0 0).f1).length : Int) then (if 0 ≤ ((rd_T44 ((rd_T72 l0 0).f2.f0) a1).f1) then (some ((rd_T38 ((rd_T72 l0 0).f1) ((rd_T44 ((rd_T72 l0 0).f2.f0) a1).f1)).f1, (rd_T38 ((rd_T72 l0 0).f1) ((rd_T44 ((rd_T72 l0 0).f2.f0) a1).f1)).f1)) else (none)) else (if (((rd_T72 l0 0).f1).length : Int) > 0 then (if 0 ≤ (wrap64 ((((rd_T72 l0 0).f1).length : Int) - 1)) then (if (wrap64 ((((rd_T72 l0 0).f1).length : Int) - 1)) < (((rd_T72 l0 0).f1).length : Int) then (some ((rd_T38 ((rd_T72 l0 0).f1) (wrap64 ((((rd_T72 l0 0).f1).length : Int) - 1))).f2, (rd_T38 ((rd_T72 l0 0).f1) (wrap64 ((((rd_T72 l0 0).f1).length : Int) - 1))).f2)) else (none)) else (none)) else (some (0, 0))))) else (none)) else (none)) else (none)) = some (r1, r2) := by rw [if_neg (show ¬ (false = true) by decide)] at H; exact H
          clear H
          have H := H1
          clear H1
          by_cases c9 : 0 < (l0.length : Int)
          · rw [if_pos c9] at H
            have c9b0 : decide (0 < (l0.length : Int)) = true := decide_eq_true c9
            have c9b1 : decide (0 < l0.length) = true := decide_eq_true (by omega)
            clear c9
            by_cases c10 : 0 ≤ a1
            · rw [if_pos c10] at H
              have c10b0 : decide (0 ≤ a1) = true := decide_eq_true c10
              clear c10
              by_cases c11 : a1 < (((rd_T72 l0 0).f2.f0).length : Int)
              · rw [if_pos c11] at H
                have c11b0 : decide (a1 < (((rd_T72 l0 0).f2.f0).length : Int)) = true := decide_eq_true c11
                clear c11
                by_cases c12 : ((rd_T44 ((rd_T72 l0 0).f2.f0) a1).f1) < ((rd_T44 ((rd_T72 l0 0).f2.f0) a1).f2)
                · rw [if_pos c12] at H
                  have c12b0 : decide (((rd_T44 ((rd_T72 l0 0).f2.f0) a1).f1) < ((rd_T44 ((rd_T72 l0 0).f2.f0) a1).f2)) = true := decide_eq_true c12
                  clear c12
                  by_cases c13 : 0 ≤ ((rd_T44 ((rd_T72 l0 0).f2.f0) a1).f1)
                  · rw [if_pos c13] at H
                    have c13b0 : decide (0 ≤ ((rd_T44 ((rd_T72 l0 0).f2.f0) a1).f1)) = true := decide_eq_true c13
                    clear c13
                    by_cases c14 : ((rd_T44 ((rd_T72 l0 0).f2.f0) a1).f1) < (((rd_T72 l0 0).f1).length : Int)
                    · rw [if_pos c14] at H
                      have c14b0 : decide (((rd_T44 ((rd_T72 l0 0).f2.f0) a1).f1) < (((rd_T72 l0 0).f1).length : Int)) = true := decide_eq_true c14
                      clear c14
                      obtain ⟨ji15, hji15⟩ : ∃ j_ : Int, (wrap64 (((rd_T44 ((rd_T72 l0 0).f2.f0) a1).f2) - 1)) = j_ := ⟨_, rfl⟩
                      replace H : (if 0 ≤ (ji15) then (if (ji15) < (((rd_T72 l0 0).f1).length : Int) then (some ((rd_T38 ((rd_T72 l0 0).f1) ((rd_T44 ((rd_T72 l0 0).f2.f0) a1).f1)).f1, (rd_T38 ((rd_T72 l0 0).f1) (ji15)).f2)) else (none)) else (none)) = some (r1, r2) := by first | (rw [hji15] at H; exact H) | (simp only [hji15] at H ⊢; exact H)
                      have hji15w : (IntKind.i64.wrap (((rd_T44 ((rd_T72 l0 0).f2.f0) a1).f2) - 1)) = ji15 := (i64_w _).trans hji15
                      by_cases c16 : 0 ≤ (ji15)
                      · rw [if_pos c16] at H
                        have c16b0 : decide (0 ≤ (ji15)) = true := decide_eq_true c16
                        clear c16
                        by_cases c17 : (ji15) < (((rd_T72 l0 0).f1).length : Int)
                        · rw [if_pos c17] at H
                          have c17b0 : decide ((ji15) < (((rd_T72 l0 0).f1).length : Int)) = true := decide_eq_true c17
                          clear c17
                          simp only [Option.some.injEq, Prod.mk.injEq] at H
                          obtain ⟨rfl, rfl⟩ := H
                          have p138 : 0 ≤ (0 : Int) := (by omega)
                          have q138 : 0 < (l0.length : Int) := of_decide_eq_true (by first | (with_reducible assumption) | assumption)
                          obtain ⟨ad138, A138_0, c138_0, A138_1, c138_1, A138_2, c138_2, e138, hx138_0, hx138_1, hx138_2, hl138_0, hi138_0, hl138_1, hi138_1, hl138_2, hi138_2⟩ := at_T72 HR0.out 0 p138 q138
                          obtain rfl : ad135 = ad138 := (by injection e138)
                          have qi138 : (0 < l0.length) = True := eq_true (by omega)
                          (try rw [show ((0 : Int)).toNat = 0 from rfl] at hx138_0)
                          (try rw [show 0 * 3 = 0 from rfl] at hx138_0)
                          (try rw [Addr.add_zero'] at hx138_0)
                          (try rw [show ((0 : Int)).toNat = 0 from rfl] at hx138_1)
                          (try rw [show 0 * 3 = 0 from rfl] at hx138_1)
                          (try rw [Addr.add_zero'] at hx138_1)
                          (try rw [show ((0 : Int)).toNat = 0 from rfl] at hx138_2)
                          (try rw [show 0 * 3 = 0 from rfl] at hx138_2)
                          (try rw [Addr.add_zero'] at hx138_2)
                          replace hx138_0 := (HB.out.cell (World.block_lt_of_cell? w _ hx138_0)).trans hx138_0
                          replace hx138_1 := (HB.out.cell (World.block_lt_of_cell? w _ hx138_1)).trans hx138_1
                          replace hx138_2 := (HB.out.cell (World.block_lt_of_cell? w _ hx138_2)).trans hx138_2
                          have HR138_0 := Aside0.mk hi138_0
                          have HC138_0 := Aside0.mk hl138_0
                          clear hi138_0 hl138_0
                          have HR138_1 := Aside0.mk hi138_1
                          have HC138_1 := Aside0.mk hl138_1
                          clear hi138_1 hl138_1
                          have HR138_2 := Aside0.mk hi138_2
                          have HC138_2 := Aside0.mk hl138_2
                          clear hi138_2 hl138_2
                          replace p138 := eq_true p138
                          replace q138 := eq_true q138
                          have p139 : 0 ≤ (a1 : Int) := of_decide_eq_true (by first | (with_reducible assumption) | assumption)
                          have q139 : a1 < (((rd_T72 l0 0).f2.f0).length : Int) := of_decide_eq_true (by first | (with_reducible assumption) | assumption)
                          obtain ⟨ad139, A139_3, c139_3, e139, hx139_0, hx139_1, hx139_2, hx139_3, hl139_3, hi139_3⟩ := at_T44 HR138_2.out a1 p139 q139
                          cases e139
                          replace hx139_0 := (HB.out.cell (World.block_lt_of_cell? w _ hx139_0)).trans hx139_0
                          replace hx139_1 := (HB.out.cell (World.block_lt_of_cell? w _ hx139_1)).trans hx139_1
                          replace hx139_2 := (HB.out.cell (World.block_lt_of_cell? w _ hx139_2)).trans hx139_2
                          replace hx139_3 := (HB.out.cell (World.block_lt_of_cell? w _ hx139_3)).trans hx139_3
                          have HR139_3 := Aside0.mk hi139_3
                          have HC139_3 := Aside0.mk hl139_3
                          clear hi139_3 hl139_3
                          replace p139 := eq_true p139
                          replace q139 := eq_true q139
                          try go_wp2_with (first | ((with_reducible refine gate_dst (N := 5) rfl ?_); (try (refine gate_guard (by rfl) ?_; dsimp only)); refine box_event ?hg (N := 5) ?hd (cs := #[.int .i64 0, .int .i64 0, .int .i64 0, .slice none 0 0]) (t := 44) ?hr ?_; (case hd => rfl); (case hg => rfl); (case hr => first | (go_simp; done) | (go_simp; rfl)); intro gb140 hg w18 hbox hb; have n0_ := Aside0.mk (blk_below (g := gb136) (o := .cells #[.int .i64 0, .int .i64 0] 40 (0, 0)) (by (with_reducible repeat (first | refine blk_drewN ?_ _ | refine blk_drew ?_ | refine blk_alloc ?_ _)); exact BK136.out) hb); have n1_ := Aside0.mk (below_step (by repeat (first | (with_reducible first | exact HB.out | apply below_alloc | apply pw_below_drewN | apply below_drew1 | refine below_set ?_ GE136.out) | exact HB.out)) hb); have n2_ := Aside0.mk (hbox); have n3_ := Aside0.mk ((by rw [hg]; exact (below_size (by repeat (first | (with_reducible first | exact HB.out | apply below_alloc | apply pw_below_drewN | apply below_drew1 | refine below_set ?_ GE136.out) | exact HB.out))) : w.heap.size ≤ gb140)); have n4_ := n3_; have n5_ := Aside0.mk ((by rw [hg]; exact Nat.ne_of_lt (blk_lt (g := gb136) (o := .cells #[.int .i64 0, .int .i64 0] 40 (0, 0)) (by (with_reducible repeat (first | refine blk_drewN ?_ _ | refine blk_drew ?_ | refine blk_alloc ?_ _)); exact BK136.out)) : gb136 ≠ gb140)); have n6_ := Aside0.mk ((by rw [hg]; exact Nat.ne_of_gt (blk_lt (g := gb136) (o := .cells #[.int .i64 0, .int .i64 0] 40 (0, 0)) (by (with_reducible repeat (first | refine blk_drewN ?_ _ | refine blk_drew ?_ | refine blk_alloc ?_ _)); exact BK136.out)) : gb140 ≠ gb136)); clear BK136; clear HB; have BK136 := n0_; have HB := n1_; have BK140 := n2_; have GW140 := n3_; have GE140 := n4_; have NB136_140 := n5_; have NB140_136 := n6_; clear n0_ n1_ n2_ n3_ n4_ n5_ n6_; clear hb hbox hg; have hnb19 := NB140_136.out; have hnc19 := NB136_140.out; have hcz20_0 : w18.cell? ⟨gb140, 0, none⟩ = some (.int .i64 0) := (blk_cell BK140.out 0).trans rfl; have hcz20_1 : w18.cell? ⟨gb140, 1, none⟩ = some (.int .i64 0) := (blk_cell BK140.out 1).trans rfl; have hcz20_2 : w18.cell? ⟨gb140, 2, none⟩ = some (.int .i64 0) := (blk_cell BK140.out 2).trans rfl; have hcz20_3 : w18.cell? ⟨gb140, 3, none⟩ = some (.slice none 0 0) := (blk_cell BK140.out 3).trans rfl; have hfz20_0 := blk_frozen BK140.out 0; have hfz20_1 := blk_frozen BK140.out 1; have hfz20_2 := blk_frozen BK140.out 2; have hfz20_3 := blk_frozen BK140.out 3))
                          have n0_ : Aside0 (((((w18.setCell ⟨gb140, 0, none⟩ (.int .i64 ((rd_T44 ((rd_T72 l0 0).f2.f0) a1).f0))).setCell ⟨gb140, 1, none⟩ (.int .i64 ((rd_T44 ((rd_T72 l0 0).f2.f0) a1).f1))).setCell ⟨gb140, 2, none⟩ (.int .i64 ((rd_T44 ((rd_T72 l0 0).f2.f0) a1).f2))).setCell ⟨gb140, 3, none⟩ (.slice A139_3 ((rd_T44 ((rd_T72 l0 0).f2.f0) a1).f3).length c139_3)).heap[gb136]? = some (.cells #[.int .i64 0, .int .i64 0] 40 (0, 0))) := ⟨by (with_reducible repeat (first | refine blk_drewN ?_ _ | refine blk_drew ?_ | refine blk_alloc ?_ _)); refine blk_far ?_ NB136_140.out _; (with_reducible repeat (first | refine blk_drewN ?_ _ | refine blk_drew ?_ | refine blk_alloc ?_ _)); refine blk_far ?_ NB136_140.out _; (with_reducible repeat (first | refine blk_drewN ?_ _ | refine blk_drew ?_ | refine blk_alloc ?_ _)); refine blk_far ?_ NB136_140.out _; (with_reducible repeat (first | refine blk_drewN ?_ _ | refine blk_drew ?_ | refine blk_alloc ?_ _)); refine blk_far ?_ NB136_140.out _; (with_reducible repeat (first | refine blk_drewN ?_ _ | refine blk_drew ?_ | refine blk_alloc ?_ _)); exact BK136.out⟩
                          have n1_ : Aside0 (((((w18.setCell ⟨gb140, 0, none⟩ (.int .i64 ((rd_T44 ((rd_T72 l0 0).f2.f0) a1).f0))).setCell ⟨gb140, 1, none⟩ (.int .i64 ((rd_T44 ((rd_T72 l0 0).f2.f0) a1).f1))).setCell ⟨gb140, 2, none⟩ (.int .i64 ((rd_T44 ((rd_T72 l0 0).f2.f0) a1).f2))).setCell ⟨gb140, 3, none⟩ (.slice A139_3 ((rd_T44 ((rd_T72 l0 0).f2.f0) a1).f3).length c139_3)).heap[gb140]? = some (.cells #[.int .i64 ((rd_T44 ((rd_T72 l0 0).f2.f0) a1).f0), .int .i64 ((rd_T44 ((rd_T72 l0 0).f2.f0) a1).f1), .int .i64 ((rd_T44 ((rd_T72 l0 0).f2.f0) a1).f2), .slice A139_3 ((rd_T44 ((rd_T72 l0 0).f2.f0) a1).f3).length c139_3] 44 (0, 0))) := ⟨by (with_reducible repeat (first | refine blk_drewN ?_ _ | refine blk_drew ?_ | refine blk_alloc ?_ _)); refine blk_put (cs := #[.int .i64 ((rd_T44 ((rd_T72 l0 0).f2.f0) a1).f0), .int .i64 ((rd_T44 ((rd_T72 l0 0).f2.f0) a1).f1), .int .i64 ((rd_T44 ((rd_T72 l0 0).f2.f0) a1).f2), .slice none 0 0]) ?_ 3 _ rfl; (with_reducible repeat (first | refine blk_drewN ?_ _ | refine blk_drew ?_ | refine blk_alloc ?_ _)); refine blk_put (cs := #[.int .i64 ((rd_T44 ((rd_T72 l0 0).f2.f0) a1).f0), .int .i64 ((rd_T44 ((rd_T72 l0 0).f2.f0) a1).f1), .int .i64 0, .slice none 0 0]) ?_ 2 _ rfl; (with_reducible repeat (first | refine blk_drewN ?_ _ | refine blk_drew ?_ | refine blk_alloc ?_ _)); refine blk_put (cs := #[.int .i64 ((rd_T44 ((rd_T72 l0 0).f2.f0) a1).f0), .int .i64 0, .int .i64 0, .slice none 0 0]) ?_ 1 _ rfl; (with_reducible repeat (first | refine blk_drewN ?_ _ | refine blk_drew ?_ | refine blk_alloc ?_ _)); refine blk_put (cs := #[.int .i64 0, .int .i64 0, .int .i64 0, .slice none 0 0]) ?_ 0 _ rfl; (with_reducible repeat (first | refine blk_drewN ?_ _ | refine blk_drew ?_ | refine blk_alloc ?_ _)); exact BK140.out⟩
                          have n2_ : Aside0 (Below w.heap.size w ((((w18.setCell ⟨gb140, 0, none⟩ (.int .i64 ((rd_T44 ((rd_T72 l0 0).f2.f0) a1).f0))).setCell ⟨gb140, 1, none⟩ (.int .i64 ((rd_T44 ((rd_T72 l0 0).f2.f0) a1).f1))).setCell ⟨gb140, 2, none⟩ (.int .i64 ((rd_T44 ((rd_T72 l0 0).f2.f0) a1).f2))).setCell ⟨gb140, 3, none⟩ (.slice A139_3 ((rd_T44 ((rd_T72 l0 0).f2.f0) a1).f3).length c139_3))) := ⟨by repeat (first | (with_reducible first | exact HB.out | apply below_alloc | apply pw_below_drewN | apply below_drew1 | refine below_set ?_ GE136.out | refine below_set ?_ GE140.out) | exact HB.out)⟩
                          (try clear BK136)
                          (try clear BK140)
                          (try clear HB)
                          generalize ((((w18.setCell ⟨gb140, 0, none⟩ (.int .i64 ((rd_T44 ((rd_T72 l0 0).f2.f0) a1).f0))).setCell ⟨gb140, 1, none⟩ (.int .i64 ((rd_T44 ((rd_T72 l0 0).f2.f0) a1).f1))).setCell ⟨gb140, 2, none⟩ (.int .i64 ((rd_T44 ((rd_T72 l0 0).f2.f0) a1).f2))).setCell ⟨gb140, 3, none⟩ (.slice A139_3 ((rd_T44 ((rd_T72 l0 0).f2.f0) a1).f3).length c139_3)) = w21 at n0_ n1_ n2_ ⊢
                          have BK136 := n0_
                          have BK140 := n1_
                          have HB := n2_
                          clear n0_ n1_ n2_
                          have n0_ := Aside0.mk (blk_drew BK136.out)
                          have n1_ := Aside0.mk (blk_drew BK140.out)
                          have n2_ := Aside0.mk (below_drew1 HB.out)
                          clear BK136
                          clear BK140
                          clear HB
                          have BK136 := n0_
                          have BK140 := n1_
                          have HB := n2_
                          clear n0_ n1_ n2_
                          have p141 : 0 ≤ (0 : Int) := (by omega)
                          have q141 : 0 < (l0.length : Int) := of_decide_eq_true (by first | (with_reducible assumption) | assumption)
                          obtain ⟨ad141, A141_0, c141_0, A141_1, c141_1, A141_2, c141_2, e141, hx141_0, hx141_1, hx141_2, hl141_0, hi141_0, hl141_1, hi141_1, hl141_2, hi141_2⟩ := at_T72 HR0.out 0 p141 q141
                          have hw141_2 := hx141_2
                          (try rw [show ((0 : Int)).toNat = 0 from rfl] at hw141_2)
                          (try rw [show 0 * 3 = 0 from rfl] at hw141_2)
                          (try rw [Addr.add_zero'] at hw141_2)
                          have hw141_1 := hx141_1
                          (try rw [show ((0 : Int)).toNat = 0 from rfl] at hw141_1)
                          (try rw [show 0 * 3 = 0 from rfl] at hw141_1)
                          (try rw [Addr.add_zero'] at hw141_1)
                          have hw141_0 := hx141_0
                          (try rw [show ((0 : Int)).toNat = 0 from rfl] at hw141_0)
                          (try rw [show 0 * 3 = 0 from rfl] at hw141_0)
                          (try rw [Addr.add_zero'] at hw141_0)
                          obtain rfl : ad135 = ad141 := (by injection e141)
                          have qi141 : (0 < l0.length) = True := eq_true (by omega)
                          (try rw [show ((0 : Int)).toNat = 0 from rfl] at hx141_0)
                          (try rw [show 0 * 3 = 0 from rfl] at hx141_0)
                          (try rw [Addr.add_zero'] at hx141_0)
                          (try rw [show ((0 : Int)).toNat = 0 from rfl] at hx141_1)
                          (try rw [show 0 * 3 = 0 from rfl] at hx141_1)
                          (try rw [Addr.add_zero'] at hx141_1)
                          (try rw [show ((0 : Int)).toNat = 0 from rfl] at hx141_2)
                          (try rw [show 0 * 3 = 0 from rfl] at hx141_2)
                          (try rw [Addr.add_zero'] at hx141_2)
                          replace hx141_0 := (HB.out.cell (World.block_lt_of_cell? w _ hx141_0)).trans hx141_0
                          replace hx141_1 := (HB.out.cell (World.block_lt_of_cell? w _ hx141_1)).trans hx141_1
                          replace hx141_2 := (HB.out.cell (World.block_lt_of_cell? w _ hx141_2)).trans hx141_2
                          have HR141_0 := Aside0.mk hi141_0
                          have HC141_0 := Aside0.mk hl141_0
                          clear hi141_0 hl141_0
                          have HR141_1 := Aside0.mk hi141_1
                          have HC141_1 := Aside0.mk hl141_1
                          clear hi141_1 hl141_1
                          have HR141_2 := Aside0.mk hi141_2
                          have HC141_2 := Aside0.mk hl141_2
                          clear hi141_2 hl141_2
                          replace p141 := eq_true p141
                          replace q141 := eq_true q141
                          have p142 : 0 ≤ (((rd_T44 ((rd_T72 l0 0).f2.f0) a1).f1) : Int) := of_decide_eq_true (by first | (with_reducible assumption) | assumption)
                          have q142 : ((rd_T44 ((rd_T72 l0 0).f2.f0) a1).f1) < (((rd_T72 l0 0).f1).length : Int) := of_decide_eq_true (by first | (with_reducible assumption) | assumption)
                          obtain ⟨ad142, e142, hx142_0, hx142_1, hx142_2, hx142_3, hx142_4⟩ := at_T38 HR141_1.out ((rd_T44 ((rd_T72 l0 0).f2.f0) a1).f1) p142 q142
                          have hw142_4 := hx142_4
                          have hw142_3 := hx142_3
                          have hw142_2 := hx142_2
                          have hw142_1 := hx142_1
                          have hw142_0 := hx142_0
                          cases e142
                          replace hx142_0 := (HB.out.cell (World.block_lt_of_cell? w _ hx142_0)).trans hx142_0
                          replace hx142_1 := (HB.out.cell (World.block_lt_of_cell? w _ hx142_1)).trans hx142_1
                          replace hx142_2 := (HB.out.cell (World.block_lt_of_cell? w _ hx142_2)).trans hx142_2
                          replace hx142_3 := (HB.out.cell (World.block_lt_of_cell? w _ hx142_3)).trans hx142_3
                          replace hx142_4 := (HB.out.cell (World.block_lt_of_cell? w _ hx142_4)).trans hx142_4
                          replace p142 := eq_true p142
                          replace q142 := eq_true q142
                          have p143 : 0 ≤ (0 : Int) := (by omega)
                          have q143 : 0 < (l0.length : Int) := of_decide_eq_true (by first | (with_reducible assumption) | assumption)
                          obtain ⟨ad143, A143_0, c143_0, A143_1, c143_1, A143_2, c143_2, e143, hx143_0, hx143_1, hx143_2, hl143_0, hi143_0, hl143_1, hi143_1, hl143_2, hi143_2⟩ := at_T72 HR0.out 0 p143 q143
                          have hw143_2 := hx143_2
                          (try rw [show ((0 : Int)).toNat = 0 from rfl] at hw143_2)
                          (try rw [show 0 * 3 = 0 from rfl] at hw143_2)
                          (try rw [Addr.add_zero'] at hw143_2)
                          have hw143_1 := hx143_1
                          (try rw [show ((0 : Int)).toNat = 0 from rfl] at hw143_1)
                          (try rw [show 0 * 3 = 0 from rfl] at hw143_1)
                          (try rw [Addr.add_zero'] at hw143_1)
                          have hw143_0 := hx143_0
                          (try rw [show ((0 : Int)).toNat = 0 from rfl] at hw143_0)
                          (try rw [show 0 * 3 = 0 from rfl] at hw143_0)
                          (try rw [Addr.add_zero'] at hw143_0)
                          obtain rfl : ad135 = ad143 := (by injection e143)
                          have qi143 : (0 < l0.length) = True := eq_true (by omega)
                          (try rw [show ((0 : Int)).toNat = 0 from rfl] at hx143_0)
                          (try rw [show 0 * 3 = 0 from rfl] at hx143_0)
                          (try rw [Addr.add_zero'] at hx143_0)
                          (try rw [show ((0 : Int)).toNat = 0 from rfl] at hx143_1)
                          (try rw [show 0 * 3 = 0 from rfl] at hx143_1)
                          (try rw [Addr.add_zero'] at hx143_1)
                          (try rw [show ((0 : Int)).toNat = 0 from rfl] at hx143_2)
                          (try rw [show 0 * 3 = 0 from rfl] at hx143_2)
                          (try rw [Addr.add_zero'] at hx143_2)
                          replace hx143_0 := (HB.out.cell (World.block_lt_of_cell? w _ hx143_0)).trans hx143_0
                          replace hx143_1 := (HB.out.cell (World.block_lt_of_cell? w _ hx143_1)).trans hx143_1
                          replace hx143_2 := (HB.out.cell (World.block_lt_of_cell? w _ hx143_2)).trans hx143_2
                          have HR143_0 := Aside0.mk hi143_0
                          have HC143_0 := Aside0.mk hl143_0
                          clear hi143_0 hl143_0
                          have HR143_1 := Aside0.mk hi143_1
                          have HC143_1 := Aside0.mk hl143_1
                          clear hi143_1 hl143_1
                          have HR143_2 := Aside0.mk hi143_2
                          have HC143_2 := Aside0.mk hl143_2
                          clear hi143_2 hl143_2
                          replace p143 := eq_true p143
                          replace q143 := eq_true q143
                          have ea_ := Option.some.inj (hx141_0.symm.trans hx143_0)
                          injection ea_ with ea_ en_ ec_
                          subst ea_
                          subst ec_
                          clear en_
                          have ea_ := Option.some.inj (hx141_1.symm.trans hx143_1)
                          injection ea_ with ea_ en_ ec_
                          subst ea_
                          subst ec_
                          clear en_
                          have ea_ := Option.some.inj (hx141_2.symm.trans hx143_2)
                          injection ea_ with ea_ en_ ec_
                          subst ea_
                          subst ec_
                          clear en_
                          have p144 : 0 ≤ ((ji15) : Int) := of_decide_eq_true (by first | (with_reducible assumption) | assumption)
                          have q144 : (ji15) < (((rd_T72 l0 0).f1).length : Int) := of_decide_eq_true (by first | (with_reducible assumption) | assumption)
                          obtain ⟨ad144, e144, hx144_0, hx144_1, hx144_2, hx144_3, hx144_4⟩ := at_T38 HR143_1.out (ji15) p144 q144
                          have hw144_4 := hx144_4
                          have hw144_3 := hx144_3
                          have hw144_2 := hx144_2
                          have hw144_1 := hx144_1
                          have hw144_0 := hx144_0
                          obtain rfl : ad142 = ad144 := (by injection e144)
                          replace hx144_0 := (HB.out.cell (World.block_lt_of_cell? w _ hx144_0)).trans hx144_0
                          replace hx144_1 := (HB.out.cell (World.block_lt_of_cell? w _ hx144_1)).trans hx144_1
                          replace hx144_2 := (HB.out.cell (World.block_lt_of_cell? w _ hx144_2)).trans hx144_2
                          replace hx144_3 := (HB.out.cell (World.block_lt_of_cell? w _ hx144_3)).trans hx144_3
                          replace hx144_4 := (HB.out.cell (World.block_lt_of_cell? w _ hx144_4)).trans hx144_4
                          replace p144 := eq_true p144
                          replace q144 := eq_true q144
                          refine start_ (n := 21) (S := fun w' => w'.cell? ⟨gb140, 0, none⟩ = some (.int .i64 ((rd_T44 ((rd_T72 l0 0).f2.f0) a1).f0)) ∧ w'.cell? ⟨gb140, 1, none⟩ = some (.int .i64 ((rd_T44 ((rd_T72 l0 0).f2.f0) a1).f1)) ∧ w'.cell? ⟨gb140, 2, none⟩ = some (.int .i64 ((rd_T44 ((rd_T72 l0 0).f2.f0) a1).f2)) ∧ w'.cell? ⟨gb140, 3, none⟩ = some (.slice A139_3 ((rd_T44 ((rd_T72 l0 0).f2.f0) a1).f3).length c139_3) ∧ w'.cell? ad135 = some (.slice A141_0 ((rd_T72 l0 0).f0).length c141_0) ∧ w'.cell? ⟨ad135.block, ad135.off + 1, none⟩ = some (.slice (some ad142) ((rd_T72 l0 0).f1).length c141_1) ∧ w'.cell? ⟨ad135.block, ad135.off + 2, none⟩ = some (.slice A141_2 ((rd_T72 l0 0).f2.f0).length c141_2) ∧ w'.cell? (ad142.add ((((rd_T44 ((rd_T72 l0 0).f2.f0) a1).f1)).toNat * 5)) = some (.int .i64 ((rd_T38 ((rd_T72 l0 0).f1) ((rd_T44 ((rd_T72 l0 0).f2.f0) a1).f1)).f0)) ∧ w'.cell? ⟨(ad142.add ((((rd_T44 ((rd_T72 l0 0).f2.f0) a1).f1)).toNat * 5)).block, (ad142.add ((((rd_T44 ((rd_T72 l0 0).f2.f0) a1).f1)).toNat * 5)).off + 1, none⟩ = some (.int .i64 ((rd_T38 ((rd_T72 l0 0).f1) ((rd_T44 ((rd_T72 l0 0).f2.f0) a1).f1)).f1)) ∧ w'.cell? ⟨(ad142.add ((((rd_T44 ((rd_T72 l0 0).f2.f0) a1).f1)).toNat * 5)).block, (ad142.add ((((rd_T44 ((rd_T72 l0 0).f2.f0) a1).f1)).toNat * 5)).off + 2, none⟩ = some (.int .i64 ((rd_T38 ((rd_T72 l0 0).f1) ((rd_T44 ((rd_T72 l0 0).f2.f0) a1).f1)).f2)) ∧ w'.cell? ⟨(ad142.add ((((rd_T44 ((rd_T72 l0 0).f2.f0) a1).f1)).toNat * 5)).block, (ad142.add ((((rd_T44 ((rd_T72 l0 0).f2.f0) a1).f1)).toNat * 5)).off + 3, none⟩ = some (.bool ((rd_T38 ((rd_T72 l0 0).f1) ((rd_T44 ((rd_T72 l0 0).f2.f0) a1).f1)).f3)) ∧ w'.cell? ⟨(ad142.add ((((rd_T44 ((rd_T72 l0 0).f2.f0) a1).f1)).toNat * 5)).block, (ad142.add ((((rd_T44 ((rd_T72 l0 0).f2.f0) a1).f1)).toNat * 5)).off + 4, none⟩ = some (.int .i64 ((rd_T38 ((rd_T72 l0 0).f1) ((rd_T44 ((rd_T72 l0 0).f2.f0) a1).f1)).f4)) ∧ w'.cell? ad135 = some (.slice A141_0 ((rd_T72 l0 0).f0).length c141_0) ∧ w'.cell? ⟨ad135.block, ad135.off + 1, none⟩ = some (.slice (some ad142) ((rd_T72 l0 0).f1).length c141_1) ∧ w'.cell? ⟨ad135.block, ad135.off + 2, none⟩ = some (.slice A141_2 ((rd_T72 l0 0).f2.f0).length c141_2) ∧ w'.cell? (ad142.add (((ji15)).toNat * 5)) = some (.int .i64 ((rd_T38 ((rd_T72 l0 0).f1) (ji15)).f0)) ∧ w'.cell? ⟨(ad142.add (((ji15)).toNat * 5)).block, (ad142.add (((ji15)).toNat * 5)).off + 1, none⟩ = some (.int .i64 ((rd_T38 ((rd_T72 l0 0).f1) (ji15)).f1)) ∧ w'.cell? ⟨(ad142.add (((ji15)).toNat * 5)).block, (ad142.add (((ji15)).toNat * 5)).off + 2, none⟩ = some (.int .i64 ((rd_T38 ((rd_T72 l0 0).f1) (ji15)).f2)) ∧ w'.cell? ⟨(ad142.add (((ji15)).toNat * 5)).block, (ad142.add (((ji15)).toNat * 5)).off + 3, none⟩ = some (.bool ((rd_T38 ((rd_T72 l0 0).f1) (ji15)).f3)) ∧ w'.cell? ⟨(ad142.add (((ji15)).toNat * 5)).block, (ad142.add (((ji15)).toNat * 5)).off + 4, none⟩ = some (.int .i64 ((rd_T38 ((rd_T72 l0 0).f1) (ji15)).f4))) (ds := []) #[false, false, false, false, false, false, false, false, false, false, false, false, false, false, false, false, false, false, false, false, false] (by kernel_rfl) rfl rfl ⟨(blk_cell BK140.out 0).trans rfl, (blk_cell BK140.out 1).trans rfl, (blk_cell BK140.out 2).trans rfl, (blk_cell BK140.out 3).trans rfl, ((HB.out.cell (World.block_lt_of_cell? w _ hw141_0)).trans hw141_0), ((HB.out.cell (World.block_lt_of_cell? w _ hw141_1)).trans hw141_1), ((HB.out.cell (World.block_lt_of_cell? w _ hw141_2)).trans hw141_2), ((HB.out.cell (World.block_lt_of_cell? w _ hw142_0)).trans hw142_0), ((HB.out.cell (World.block_lt_of_cell? w _ hw142_1)).trans hw142_1), ((HB.out.cell (World.block_lt_of_cell? w _ hw142_2)).trans hw142_2), ((HB.out.cell (World.block_lt_of_cell? w _ hw142_3)).trans hw142_3), ((HB.out.cell (World.block_lt_of_cell? w _ hw142_4)).trans hw142_4), ((HB.out.cell (World.block_lt_of_cell? w _ hw143_0)).trans hw143_0), ((HB.out.cell (World.block_lt_of_cell? w _ hw143_1)).trans hw143_1), ((HB.out.cell (World.block_lt_of_cell? w _ hw143_2)).trans hw143_2), ((HB.out.cell (World.block_lt_of_cell? w _ hw144_0)).trans hw144_0), ((HB.out.cell (World.block_lt_of_cell? w _ hw144_1)).trans hw144_1), ((HB.out.cell (World.block_lt_of_cell? w _ hw144_2)).trans hw144_2), ((HB.out.cell (World.block_lt_of_cell? w _ hw144_3)).trans hw144_3), ((HB.out.cell (World.block_lt_of_cell? w _ hw144_4)).trans hw144_4)⟩ (fun hHeld => ?_); refine with_tabW view_File_Span.tab5 view_File_Span.bits5 (fun HT_ HW_ => ?_)
                          generalize w21.drew = w22 at BK136 BK140 HB HR141_0 HR141_1 HR141_2 HR143_0 HR143_1 HR143_2 hx141_0 hx141_1 hx141_2 hx142_0 hx142_1 hx142_2 hx142_3 hx142_4 hx143_0 hx143_1 hx143_2 hx144_0 hx144_1 hx144_2 hx144_3 hx144_4 hHeld ⊢
                          refine pure_ (i := 0) (N := some 38) (v := ?_) (a' := ?_) (bl_ 21 1) rfl rfl (any_of HT_.out (by kernel_rfl)) (fun _ _ _ h => h) (Or.inl ⟨by rfl, ?_⟩) ?_ ?_; rotate_left; { intro w'; go_simp; with_reducible rfl }; rotate_left; { simp only [Act.put, List.setIfInBounds_toArray, List.set_cons_zero, List.set_cons_succ, i64_w, i32_w]; rfl }
                          refine pure_ (i := 1) (N := some 39) (v := ?_) (a' := ?_) (bl_ 21 3) rfl rfl (any_of HT_.out (by kernel_rfl)) (fun _ _ _ h => h) (Or.inl ⟨by rfl, ?_⟩) ?_ ?_; rotate_left; { intro w'; go_simp; with_reducible rfl }; rotate_left; { simp only [Act.put, List.setIfInBounds_toArray, List.set_cons_zero, List.set_cons_succ, i64_w, i32_w]; rfl }
                          refine pure_ (i := 2) (N := some 40) (v := ?_) (a' := ?_) (bl_ 21 7) rfl rfl (any_of HT_.out (by kernel_rfl)) (fun _ _ _ h => h) (Or.inl ⟨by rfl, ?_⟩) ?_ ?_; rotate_left; { intro w'; go_simp; with_reducible rfl }; rotate_left; { simp only [Act.put, List.setIfInBounds_toArray, List.set_cons_zero, List.set_cons_succ, i64_w, i32_w]; rfl }
                          refine pure_ (i := 4) (N := some 42) (v := ?_) (a' := ?_) (bl_ 21 23) rfl rfl (any_of HT_.out (by kernel_rfl)) (fun _ _ _ h => h) (Or.inl ⟨by rfl, ?_⟩) ?_ ?_; rotate_left; { intro w'; go_simp; with_reducible rfl }; rotate_left; { simp only [Act.put, List.setIfInBounds_toArray, List.set_cons_zero, List.set_cons_succ, i64_w, i32_w]; rfl }
                          refine pure_ (i := 9) (N := some 47) (v := ?_) (a' := ?_) (bl_ 21 535) rfl rfl (any_of HT_.out (by kernel_rfl)) (fun _ _ _ h => h) (Or.inl ⟨by rfl, ?_⟩) ?_ ?_; rotate_left; { intro w'; go_simp; with_reducible rfl }; rotate_left; { simp only [Act.put, List.setIfInBounds_toArray, List.set_cons_zero, List.set_cons_succ, i64_w, i32_w]; rfl }
                          refine pure_ (i := 10) (N := some 48) (v := ?_) (a' := ?_) (bl_ 21 1559) rfl rfl (any_of HT_.out (by kernel_rfl)) (fun _ _ _ h => h) (Or.inl ⟨by rfl, ?_⟩) ?_ ?_; rotate_left; { intro w'; go_simp; with_reducible rfl }; rotate_left; { simp only [Act.put, List.setIfInBounds_toArray, List.set_cons_zero, List.set_cons_succ, i64_w, i32_w]; rfl }
                          refine pure_ (i := 11) (N := some 49) (v := ?_) (a' := ?_) (bl_ 21 3607) rfl rfl (any_of HT_.out (by kernel_rfl)) (fun _ _ _ h => h) (Or.inl ⟨by rfl, ?_⟩) ?_ ?_; rotate_left; { intro w'; go_simp; with_reducible rfl }; rotate_left; { simp only [Act.put, List.setIfInBounds_toArray, List.set_cons_zero, List.set_cons_succ, i64_w, i32_w]; rfl }
                          refine pure_ (i := 13) (N := some 51) (v := ?_) (a' := ?_) (bl_ 21 11799) rfl rfl (any_of HT_.out (by kernel_rfl)) (fun _ _ _ h => h) (Or.inl ⟨by rfl, ?_⟩) ?_ ?_; rotate_left; { intro w'; go_simp; with_reducible rfl }; rotate_left; { simp only [Act.put, List.setIfInBounds_toArray, List.set_cons_zero, List.set_cons_succ, i64_w, i32_w]; rfl }
                          refine take_ (i := 3) (N := some 41) (v := ?_) (a' := ?_) (bl_ 21 11807) rfl rfl (take_ofW HT_.out HW_.out (by kernel_rfl)) (fun _ _ _ h => h) (Or.inl ⟨by rfl, ?_⟩) hHeld ?_ ?_; rotate_left; { rintro w' ⟨s0, s1, s2, s3, s4, s5, s6, s7, s8, s9, s10, s11, s12, s13, s14, s15, s16, s17, s18, s19⟩; go_simp; with_reducible rfl }; rotate_left; { simp only [Act.put, List.setIfInBounds_toArray, List.set_cons_zero, List.set_cons_succ, i64_w, i32_w]; rfl }
                          refine take_ (i := 5) (N := some 43) (v := ?_) (a' := ?_) (bl_ 21 11839) rfl rfl (take_ofW HT_.out HW_.out (by kernel_rfl)) (fun _ _ _ h => h) (Or.inl ⟨by rfl, ?_⟩) hHeld ?_ ?_; rotate_left; { rintro w' ⟨s0, s1, s2, s3, s4, s5, s6, s7, s8, s9, s10, s11, s12, s13, s14, s15, s16, s17, s18, s19⟩; go_simp; with_reducible rfl }; rotate_left; { simp only [Act.put, List.setIfInBounds_toArray, List.set_cons_zero, List.set_cons_succ, i64_w, i32_w]; rfl }
                          refine pure_ (i := 6) (N := some 44) (v := ?_) (a' := ?_) (bl_ 21 11903) rfl rfl (any_of HT_.out (by kernel_rfl)) (fun _ _ _ h => h) (Or.inl ⟨by rfl, ?_⟩) ?_ ?_; rotate_left; { intro w'; go_simp; with_reducible rfl }; rotate_left; { simp only [Act.put, List.setIfInBounds_toArray, List.set_cons_zero, List.set_cons_succ, i64_w, i32_w]; rfl }
                          refine pure_ (i := 7) (N := some 45) (v := ?_) (a' := ?_) (bl_ 21 12031) rfl rfl (any_of HT_.out (by kernel_rfl)) (fun _ _ _ h => h) (Or.inl ⟨by rfl, ?_⟩) ?_ ?_; rotate_left; { intro w'; go_simp; with_reducible rfl }; rotate_left; { simp only [Act.put, List.setIfInBounds_toArray, List.set_cons_zero, List.set_cons_succ, i64_w, i32_w]; rfl }
                          refine take_ (i := 8) (N := some 46) (v := ?_) (a' := ?_) (bl_ 21 12287) rfl rfl (take_ofW HT_.out HW_.out (by kernel_rfl)) (fun _ _ _ h => h) (Or.inl ⟨by rfl, ?_⟩) hHeld ?_ ?_; rotate_left; { rintro w' ⟨s0, s1, s2, s3, s4, s5, s6, s7, s8, s9, s10, s11, s12, s13, s14, s15, s16, s17, s18, s19⟩; go_simp; with_reducible rfl }; rotate_left; { simp only [Act.put, List.setIfInBounds_toArray, List.set_cons_zero, List.set_cons_succ, i64_w, i32_w]; rfl }
                          refine take_ (i := 12) (N := some 50) (v := ?_) (a' := ?_) (bl_ 21 16383) rfl rfl (take_ofW HT_.out HW_.out (by kernel_rfl)) (fun _ _ _ h => h) (Or.inl ⟨by rfl, ?_⟩) hHeld ?_ ?_; rotate_left; { rintro w' ⟨s0, s1, s2, s3, s4, s5, s6, s7, s8, s9, s10, s11, s12, s13, s14, s15, s16, s17, s18, s19⟩; go_simp; with_reducible rfl }; rotate_left; { simp only [Act.put, List.setIfInBounds_toArray, List.set_cons_zero, List.set_cons_succ, i64_w, i32_w]; rfl }
                          refine take_ (i := 14) (N := some 52) (v := ?_) (a' := ?_) (bl_ 21 32767) rfl rfl (take_ofW HT_.out HW_.out (by kernel_rfl)) (fun _ _ _ h => h) (Or.inl ⟨by rfl, ?_⟩) hHeld ?_ ?_; rotate_left; { rintro w' ⟨s0, s1, s2, s3, s4, s5, s6, s7, s8, s9, s10, s11, s12, s13, s14, s15, s16, s17, s18, s19⟩; go_simp; with_reducible rfl }; rotate_left; { simp only [Act.put, List.setIfInBounds_toArray, List.set_cons_zero, List.set_cons_succ, i64_w, i32_w]; rfl }
                          refine pure_ (i := 15) (N := some 53) (v := ?_) (a' := ?_) (bl_ 21 65535) rfl rfl (any_of HT_.out (by kernel_rfl)) (fun _ _ _ h => h) (Or.inl ⟨by rfl, ?_⟩) ?_ ?_; rotate_left; { intro w'; go_simp; with_reducible rfl }; rotate_left; { simp only [Act.put, List.setIfInBounds_toArray, List.set_cons_zero, List.set_cons_succ, i64_w, i32_w]; rfl }
                          refine pure_ (i := 16) (N := some 54) (v := ?_) (a' := ?_) (bl_ 21 131071) rfl rfl (any_of HT_.out (by kernel_rfl)) (fun _ _ _ h => h) (Or.inl ⟨by rfl, ?_⟩) ?_ ?_; rotate_left; { intro w'; go_simp; with_reducible rfl }; rotate_left; { simp only [Act.put, List.setIfInBounds_toArray, List.set_cons_zero, List.set_cons_succ, i64_w, i32_w]; rfl }
                          refine pure_ (i := 17) (N := some 55) (v := ?_) (a' := ?_) (bl_ 21 262143) rfl rfl (any_of HT_.out (by kernel_rfl)) (fun _ _ _ h => h) (Or.inl ⟨by rfl, ?_⟩) ?_ ?_; rotate_left; { intro w'; go_simp; with_reducible rfl }; rotate_left; { simp only [Act.put, List.setIfInBounds_toArray, List.set_cons_zero, List.set_cons_succ, i64_w, i32_w]; rfl }
                          refine take_ (i := 18) (N := some 56) (v := ?_) (a' := ?_) (bl_ 21 524287) rfl rfl (take_ofW HT_.out HW_.out (by kernel_rfl)) (fun _ _ _ h => h) (Or.inl ⟨by rfl, ?_⟩) hHeld ?_ ?_; rotate_left; { rintro w' ⟨s0, s1, s2, s3, s4, s5, s6, s7, s8, s9, s10, s11, s12, s13, s14, s15, s16, s17, s18, s19⟩; go_simp; with_reducible rfl }; rotate_left; { simp only [Act.put, List.setIfInBounds_toArray, List.set_cons_zero, List.set_cons_succ, i64_w, i32_w]; rfl }
                          refine pure_ (i := 19) (N := some 57) (v := ?_) (a' := ?_) (bl_ 21 1048575) rfl rfl (any_of HT_.out (by kernel_rfl)) (fun _ _ _ h => h) (Or.inl ⟨by rfl, ?_⟩) ?_ ?_; rotate_left; { intro w'; go_simp; with_reducible rfl }; rotate_left; { simp only [Act.put, List.setIfInBounds_toArray, List.set_cons_zero, List.set_cons_succ, i64_w, i32_w]; rfl }
                          refine one_ (i := 20) (N := none) (bl_ 21 2097151) rfl rfl (one_of HT_.out (by kernel_rfl)) (by decide) (fun K hK => ?_)
                          have hs23 : w22.cell? ⟨gb136, 0, none⟩ = some (.int .i64 0) := (blk_cell BK136.out 0).trans rfl
                          have hfs23 := blk_frozen BK136.out 0
                          have hns23_1 := NB140_136.out
                          have hms23_1 := NB136_140.out
                          have hs24 : w22.cell? ⟨gb136, 1, none⟩ = some (.int .i64 0) := (blk_cell BK136.out 1).trans rfl
                          have hfs24 := blk_frozen BK136.out 1
                          have hns24_1 := NB140_136.out
                          have hms24_1 := NB136_140.out
                          refine skip_ (w1 := ?_) (by rfl) rfl ?_ ?_; rotate_left; { go_simp; rfl }
                          refine hK.out _ _ ⟨((cell_far (p := ⟨gb136, _, none⟩) NB140_136.out _).trans (((cell_far (p := ⟨gb136, _, none⟩) NB140_136.out _).trans (hHeld.1)))), ((cell_far (p := ⟨gb136, _, none⟩) NB140_136.out _).trans (((cell_far (p := ⟨gb136, _, none⟩) NB140_136.out _).trans (hHeld.2.1)))), ((cell_far (p := ⟨gb136, _, none⟩) NB140_136.out _).trans (((cell_far (p := ⟨gb136, _, none⟩) NB140_136.out _).trans (hHeld.2.2.1)))), ((cell_far (p := ⟨gb136, _, none⟩) NB140_136.out _).trans (((cell_far (p := ⟨gb136, _, none⟩) NB140_136.out _).trans (hHeld.2.2.2.1)))), ((cell_far (p := ⟨gb136, _, none⟩) (by first | exact ne_c hw141_0 GW136.out | exact ne_c2 hw141_0 GW136.out | (rw [add_block]; exact ne_c2 hw141_0 GW136.out) | (dsimp only; exact ne_c hw141_0 GW136.out)) _).trans (((cell_far (p := ⟨gb136, _, none⟩) (by first | exact ne_c hw141_0 GW136.out | exact ne_c2 hw141_0 GW136.out | (rw [add_block]; exact ne_c2 hw141_0 GW136.out) | (dsimp only; exact ne_c hw141_0 GW136.out)) _).trans (hHeld.2.2.2.2.1)))), ((cell_far (p := ⟨gb136, _, none⟩) (by first | exact ne_c hw141_1 GW136.out | exact ne_c2 hw141_1 GW136.out | (rw [add_block]; exact ne_c2 hw141_1 GW136.out) | (dsimp only; exact ne_c hw141_1 GW136.out)) _).trans (((cell_far (p := ⟨gb136, _, none⟩) (by first | exact ne_c hw141_1 GW136.out | exact ne_c2 hw141_1 GW136.out | (rw [add_block]; exact ne_c2 hw141_1 GW136.out) | (dsimp only; exact ne_c hw141_1 GW136.out)) _).trans (hHeld.2.2.2.2.2.1)))), ((cell_far (p := ⟨gb136, _, none⟩) (by first | exact ne_c hw141_2 GW136.out | exact ne_c2 hw141_2 GW136.out | (rw [add_block]; exact ne_c2 hw141_2 GW136.out) | (dsimp only; exact ne_c hw141_2 GW136.out)) _).trans (((cell_far (p := ⟨gb136, _, none⟩) (by first | exact ne_c hw141_2 GW136.out | exact ne_c2 hw141_2 GW136.out | (rw [add_block]; exact ne_c2 hw141_2 GW136.out) | (dsimp only; exact ne_c hw141_2 GW136.out)) _).trans (hHeld.2.2.2.2.2.2.1)))), ((cell_far (p := ⟨gb136, _, none⟩) (by first | exact ne_c hw142_0 GW136.out | exact ne_c2 hw142_0 GW136.out | (rw [add_block]; exact ne_c2 hw142_0 GW136.out) | (dsimp only; exact ne_c hw142_0 GW136.out)) _).trans (((cell_far (p := ⟨gb136, _, none⟩) (by first | exact ne_c hw142_0 GW136.out | exact ne_c2 hw142_0 GW136.out | (rw [add_block]; exact ne_c2 hw142_0 GW136.out) | (dsimp only; exact ne_c hw142_0 GW136.out)) _).trans (hHeld.2.2.2.2.2.2.2.1)))), ((cell_far (p := ⟨gb136, _, none⟩) (by first | exact ne_c hw142_1 GW136.out | exact ne_c2 hw142_1 GW136.out | (rw [add_block]; exact ne_c2 hw142_1 GW136.out) | (dsimp only; exact ne_c hw142_1 GW136.out)) _).trans (((cell_far (p := ⟨gb136, _, none⟩) (by first | exact ne_c hw142_1 GW136.out | exact ne_c2 hw142_1 GW136.out | (rw [add_block]; exact ne_c2 hw142_1 GW136.out) | (dsimp only; exact ne_c hw142_1 GW136.out)) _).trans (hHeld.2.2.2.2.2.2.2.2.1)))), ((cell_far (p := ⟨gb136, _, none⟩) (by first | exact ne_c hw142_2 GW136.out | exact ne_c2 hw142_2 GW136.out | (rw [add_block]; exact ne_c2 hw142_2 GW136.out) | (dsimp only; exact ne_c hw142_2 GW136.out)) _).trans (((cell_far (p := ⟨gb136, _, none⟩) (by first | exact ne_c hw142_2 GW136.out | exact ne_c2 hw142_2 GW136.out | (rw [add_block]; exact ne_c2 hw142_2 GW136.out) | (dsimp only; exact ne_c hw142_2 GW136.out)) _).trans (hHeld.2.2.2.2.2.2.2.2.2.1)))), ((cell_far (p := ⟨gb136, _, none⟩) (by first | exact ne_c hw142_3 GW136.out | exact ne_c2 hw142_3 GW136.out | (rw [add_block]; exact ne_c2 hw142_3 GW136.out) | (dsimp only; exact ne_c hw142_3 GW136.out)) _).trans (((cell_far (p := ⟨gb136, _, none⟩) (by first | exact ne_c hw142_3 GW136.out | exact ne_c2 hw142_3 GW136.out | (rw [add_block]; exact ne_c2 hw142_3 GW136.out) | (dsimp only; exact ne_c hw142_3 GW136.out)) _).trans (hHeld.2.2.2.2.2.2.2.2.2.2.1)))), ((cell_far (p := ⟨gb136, _, none⟩) (by first | exact ne_c hw142_4 GW136.out | exact ne_c2 hw142_4 GW136.out | (rw [add_block]; exact ne_c2 hw142_4 GW136.out) | (dsimp only; exact ne_c hw142_4 GW136.out)) _).trans (((cell_far (p := ⟨gb136, _, none⟩) (by first | exact ne_c hw142_4 GW136.out | exact ne_c2 hw142_4 GW136.out | (rw [add_block]; exact ne_c2 hw142_4 GW136.out) | (dsimp only; exact ne_c hw142_4 GW136.out)) _).trans (hHeld.2.2.2.2.2.2.2.2.2.2.2.1)))), ((cell_far (p := ⟨gb136, _, none⟩) (by first | exact ne_c hw143_0 GW136.out | exact ne_c2 hw143_0 GW136.out | (rw [add_block]; exact ne_c2 hw143_0 GW136.out) | (dsimp only; exact ne_c hw143_0 GW136.out)) _).trans (((cell_far (p := ⟨gb136, _, none⟩) (by first | exact ne_c hw143_0 GW136.out | exact ne_c2 hw143_0 GW136.out | (rw [add_block]; exact ne_c2 hw143_0 GW136.out) | (dsimp only; exact ne_c hw143_0 GW136.out)) _).trans (hHeld.2.2.2.2.2.2.2.2.2.2.2.2.1)))), ((cell_far (p := ⟨gb136, _, none⟩) (by first | exact ne_c hw143_1 GW136.out | exact ne_c2 hw143_1 GW136.out | (rw [add_block]; exact ne_c2 hw143_1 GW136.out) | (dsimp only; exact ne_c hw143_1 GW136.out)) _).trans (((cell_far (p := ⟨gb136, _, none⟩) (by first | exact ne_c hw143_1 GW136.out | exact ne_c2 hw143_1 GW136.out | (rw [add_block]; exact ne_c2 hw143_1 GW136.out) | (dsimp only; exact ne_c hw143_1 GW136.out)) _).trans (hHeld.2.2.2.2.2.2.2.2.2.2.2.2.2.1)))), ((cell_far (p := ⟨gb136, _, none⟩) (by first | exact ne_c hw143_2 GW136.out | exact ne_c2 hw143_2 GW136.out | (rw [add_block]; exact ne_c2 hw143_2 GW136.out) | (dsimp only; exact ne_c hw143_2 GW136.out)) _).trans (((cell_far (p := ⟨gb136, _, none⟩) (by first | exact ne_c hw143_2 GW136.out | exact ne_c2 hw143_2 GW136.out | (rw [add_block]; exact ne_c2 hw143_2 GW136.out) | (dsimp only; exact ne_c hw143_2 GW136.out)) _).trans (hHeld.2.2.2.2.2.2.2.2.2.2.2.2.2.2.1)))), ((cell_far (p := ⟨gb136, _, none⟩) (by first | exact ne_c hw144_0 GW136.out | exact ne_c2 hw144_0 GW136.out | (rw [add_block]; exact ne_c2 hw144_0 GW136.out) | (dsimp only; exact ne_c hw144_0 GW136.out)) _).trans (((cell_far (p := ⟨gb136, _, none⟩) (by first | exact ne_c hw144_0 GW136.out | exact ne_c2 hw144_0 GW136.out | (rw [add_block]; exact ne_c2 hw144_0 GW136.out) | (dsimp only; exact ne_c hw144_0 GW136.out)) _).trans (hHeld.2.2.2.2.2.2.2.2.2.2.2.2.2.2.2.1)))), ((cell_far (p := ⟨gb136, _, none⟩) (by first | exact ne_c hw144_1 GW136.out | exact ne_c2 hw144_1 GW136.out | (rw [add_block]; exact ne_c2 hw144_1 GW136.out) | (dsimp only; exact ne_c hw144_1 GW136.out)) _).trans (((cell_far (p := ⟨gb136, _, none⟩) (by first | exact ne_c hw144_1 GW136.out | exact ne_c2 hw144_1 GW136.out | (rw [add_block]; exact ne_c2 hw144_1 GW136.out) | (dsimp only; exact ne_c hw144_1 GW136.out)) _).trans (hHeld.2.2.2.2.2.2.2.2.2.2.2.2.2.2.2.2.1)))), ((cell_far (p := ⟨gb136, _, none⟩) (by first | exact ne_c hw144_2 GW136.out | exact ne_c2 hw144_2 GW136.out | (rw [add_block]; exact ne_c2 hw144_2 GW136.out) | (dsimp only; exact ne_c hw144_2 GW136.out)) _).trans (((cell_far (p := ⟨gb136, _, none⟩) (by first | exact ne_c hw144_2 GW136.out | exact ne_c2 hw144_2 GW136.out | (rw [add_block]; exact ne_c2 hw144_2 GW136.out) | (dsimp only; exact ne_c hw144_2 GW136.out)) _).trans (hHeld.2.2.2.2.2.2.2.2.2.2.2.2.2.2.2.2.2.1)))), ((cell_far (p := ⟨gb136, _, none⟩) (by first | exact ne_c hw144_3 GW136.out | exact ne_c2 hw144_3 GW136.out | (rw [add_block]; exact ne_c2 hw144_3 GW136.out) | (dsimp only; exact ne_c hw144_3 GW136.out)) _).trans (((cell_far (p := ⟨gb136, _, none⟩) (by first | exact ne_c hw144_3 GW136.out | exact ne_c2 hw144_3 GW136.out | (rw [add_block]; exact ne_c2 hw144_3 GW136.out) | (dsimp only; exact ne_c hw144_3 GW136.out)) _).trans (hHeld.2.2.2.2.2.2.2.2.2.2.2.2.2.2.2.2.2.2.1)))), ((cell_far (p := ⟨gb136, _, none⟩) (by first | exact ne_c hw144_4 GW136.out | exact ne_c2 hw144_4 GW136.out | (rw [add_block]; exact ne_c2 hw144_4 GW136.out) | (dsimp only; exact ne_c hw144_4 GW136.out)) _).trans (((cell_far (p := ⟨gb136, _, none⟩) (by first | exact ne_c hw144_4 GW136.out | exact ne_c2 hw144_4 GW136.out | (rw [add_block]; exact ne_c2 hw144_4 GW136.out) | (dsimp only; exact ne_c hw144_4 GW136.out)) _).trans (hHeld.2.2.2.2.2.2.2.2.2.2.2.2.2.2.2.2.2.2.2))))⟩ (fun hHeld => ?_)
                          clear hK K
                          refine done_ (done_of HT_.out (by kernel_rfl)) ?_
                          try go_wp2
                          refine bodyPost_ret (results_cell_row rfl _ _ gb136 40 #[.int .i64 ((rd_T38 ((rd_T72 l0 0).f1) ((rd_T44 ((rd_T72 l0 0).f2.f0) a1).f1)).f1), .int .i64 ((rd_T38 ((rd_T72 l0 0).f1) (ji15)).f2)] (0, 0) _ rfl (by (with_reducible repeat (first | refine blk_drewN ?_ _ | refine blk_drew ?_ | refine blk_alloc ?_ _)); refine blk_put (cs := #[.int .i64 ((rd_T38 ((rd_T72 l0 0).f1) ((rd_T44 ((rd_T72 l0 0).f2.f0) a1).f1)).f1), .int .i64 0]) ?_ 1 _ rfl; (with_reducible repeat (first | refine blk_drewN ?_ _ | refine blk_drew ?_ | refine blk_alloc ?_ _)); refine blk_put (cs := #[.int .i64 0, .int .i64 0]) ?_ 0 _ rfl; (with_reducible repeat (first | refine blk_drewN ?_ _ | refine blk_drew ?_ | refine blk_alloc ?_ _)); exact BK136.out) Try.underlying40 rfl (by kernel_rfl)) rfl ?_
                          exact ⟨by first | rfl | (simp [errW_none, errW_some, erT_no, erV_no, erT_at, erV_at] <;> rfl) | (simp only [← hji15]; first | rfl | (simp [errW_none, errW_some, erT_no, erV_no, erT_at, erV_at] <;> rfl)) | (simp [*, errW_none, errW_some, erT_no, erV_no, erT_at, erV_at] <;> rfl), by repeat (first | (with_reducible first | exact HB.out | apply below_alloc | apply pw_below_drewN | apply below_drew1 | refine below_set ?_ GE136.out | refine below_set ?_ GE140.out) | exact HB.out)⟩
                        · rw [if_neg c17] at H
                          exact absurd H (by simp)
                      · rw [if_neg c16] at H
                        exact absurd H (by simp)
                    · rw [if_neg c14] at H
                      exact absurd H (by simp)
                  · rw [if_neg c13] at H
                    exact absurd H (by simp)
                · rw [if_neg c12] at H
                  have c12b0 : decide (((rd_T44 ((rd_T72 l0 0).f2.f0) a1).f1) < ((rd_T44 ((rd_T72 l0 0).f2.f0) a1).f2)) = false := decide_eq_false c12
                  clear c12
                  by_cases c25 : ((rd_T44 ((rd_T72 l0 0).f2.f0) a1).f1) < (((rd_T72 l0 0).f1).length : Int)
                  · rw [if_pos c25] at H
                    have c25b0 : decide (((rd_T44 ((rd_T72 l0 0).f2.f0) a1).f1) < (((rd_T72 l0 0).f1).length : Int)) = true := decide_eq_true c25
                    clear c25
                    by_cases c26 : 0 ≤ ((rd_T44 ((rd_T72 l0 0).f2.f0) a1).f1)
                    · rw [if_pos c26] at H
                      have c26b0 : decide (0 ≤ ((rd_T44 ((rd_T72 l0 0).f2.f0) a1).f1)) = true := decide_eq_true c26
                      clear c26
                      simp only [Option.some.injEq, Prod.mk.injEq] at H
                      obtain ⟨rfl, rfl⟩ := H
                      have p138 : 0 ≤ (0 : Int) := (by omega)
                      have q138 : 0 < (l0.length : Int) := of_decide_eq_true (by first | (with_reducible assumption) | assumption)
                      obtain ⟨ad138, A138_0, c138_0, A138_1, c138_1, A138_2, c138_2, e138, hx138_0, hx138_1, hx138_2, hl138_0, hi138_0, hl138_1, hi138_1, hl138_2, hi138_2⟩ := at_T72 HR0.out 0 p138 q138
                      obtain rfl : ad135 = ad138 := (by injection e138)
                      have qi138 : (0 < l0.length) = True := eq_true (by omega)
                      (try rw [show ((0 : Int)).toNat = 0 from rfl] at hx138_0)
                      (try rw [show 0 * 3 = 0 from rfl] at hx138_0)
                      (try rw [Addr.add_zero'] at hx138_0)
                      (try rw [show ((0 : Int)).toNat = 0 from rfl] at hx138_1)
                      (try rw [show 0 * 3 = 0 from rfl] at hx138_1)
                      (try rw [Addr.add_zero'] at hx138_1)
                      (try rw [show ((0 : Int)).toNat = 0 from rfl] at hx138_2)
                      (try rw [show 0 * 3 = 0 from rfl] at hx138_2)
                      (try rw [Addr.add_zero'] at hx138_2)
                      replace hx138_0 := (HB.out.cell (World.block_lt_of_cell? w _ hx138_0)).trans hx138_0
                      replace hx138_1 := (HB.out.cell (World.block_lt_of_cell? w _ hx138_1)).trans hx138_1
                      replace hx138_2 := (HB.out.cell (World.block_lt_of_cell? w _ hx138_2)).trans hx138_2
                      have HR138_0 := Aside0.mk hi138_0
                      have HC138_0 := Aside0.mk hl138_0
                      clear hi138_0 hl138_0
                      have HR138_1 := Aside0.mk hi138_1
                      have HC138_1 := Aside0.mk hl138_1
                      clear hi138_1 hl138_1
                      have HR138_2 := Aside0.mk hi138_2
                      have HC138_2 := Aside0.mk hl138_2
                      clear hi138_2 hl138_2
                      replace p138 := eq_true p138
                      replace q138 := eq_true q138
                      have p139 : 0 ≤ (a1 : Int) := of_decide_eq_true (by first | (with_reducible assumption) | assumption)
                      have q139 : a1 < (((rd_T72 l0 0).f2.f0).length : Int) := of_decide_eq_true (by first | (with_reducible assumption) | assumption)
                      obtain ⟨ad139, A139_3, c139_3, e139, hx139_0, hx139_1, hx139_2, hx139_3, hl139_3, hi139_3⟩ := at_T44 HR138_2.out a1 p139 q139
                      cases e139
                      replace hx139_0 := (HB.out.cell (World.block_lt_of_cell? w _ hx139_0)).trans hx139_0
                      replace hx139_1 := (HB.out.cell (World.block_lt_of_cell? w _ hx139_1)).trans hx139_1
                      replace hx139_2 := (HB.out.cell (World.block_lt_of_cell? w _ hx139_2)).trans hx139_2
                      replace hx139_3 := (HB.out.cell (World.block_lt_of_cell? w _ hx139_3)).trans hx139_3
                      have HR139_3 := Aside0.mk hi139_3
                      have HC139_3 := Aside0.mk hl139_3
                      clear hi139_3 hl139_3
                      replace p139 := eq_true p139
                      replace q139 := eq_true q139
                      try go_wp2_with (first | ((with_reducible refine gate_dst (N := 5) rfl ?_); (try (refine gate_guard (by rfl) ?_; dsimp only)); refine box_event ?hg (N := 5) ?hd (cs := #[.int .i64 0, .int .i64 0, .int .i64 0, .slice none 0 0]) (t := 44) ?hr ?_; (case hd => rfl); (case hg => rfl); (case hr => first | (go_simp; done) | (go_simp; rfl)); intro gb140 hg w27 hbox hb; have n0_ := Aside0.mk (blk_below (g := gb136) (o := .cells #[.int .i64 0, .int .i64 0] 40 (0, 0)) (by (with_reducible repeat (first | refine blk_drewN ?_ _ | refine blk_drew ?_ | refine blk_alloc ?_ _)); exact BK136.out) hb); have n1_ := Aside0.mk (below_step (by repeat (first | (with_reducible first | exact HB.out | apply below_alloc | apply pw_below_drewN | apply below_drew1 | refine below_set ?_ GE136.out) | exact HB.out)) hb); have n2_ := Aside0.mk (hbox); have n3_ := Aside0.mk ((by rw [hg]; exact (below_size (by repeat (first | (with_reducible first | exact HB.out | apply below_alloc | apply pw_below_drewN | apply below_drew1 | refine below_set ?_ GE136.out) | exact HB.out))) : w.heap.size ≤ gb140)); have n4_ := n3_; have n5_ := Aside0.mk ((by rw [hg]; exact Nat.ne_of_lt (blk_lt (g := gb136) (o := .cells #[.int .i64 0, .int .i64 0] 40 (0, 0)) (by (with_reducible repeat (first | refine blk_drewN ?_ _ | refine blk_drew ?_ | refine blk_alloc ?_ _)); exact BK136.out)) : gb136 ≠ gb140)); have n6_ := Aside0.mk ((by rw [hg]; exact Nat.ne_of_gt (blk_lt (g := gb136) (o := .cells #[.int .i64 0, .int .i64 0] 40 (0, 0)) (by (with_reducible repeat (first | refine blk_drewN ?_ _ | refine blk_drew ?_ | refine blk_alloc ?_ _)); exact BK136.out)) : gb140 ≠ gb136)); clear BK136; clear HB; have BK136 := n0_; have HB := n1_; have BK140 := n2_; have GW140 := n3_; have GE140 := n4_; have NB136_140 := n5_; have NB140_136 := n6_; clear n0_ n1_ n2_ n3_ n4_ n5_ n6_; clear hb hbox hg; have hnb28 := NB140_136.out; have hnc28 := NB136_140.out; have hcz29_0 : w27.cell? ⟨gb140, 0, none⟩ = some (.int .i64 0) := (blk_cell BK140.out 0).trans rfl; have hcz29_1 : w27.cell? ⟨gb140, 1, none⟩ = some (.int .i64 0) := (blk_cell BK140.out 1).trans rfl; have hcz29_2 : w27.cell? ⟨gb140, 2, none⟩ = some (.int .i64 0) := (blk_cell BK140.out 2).trans rfl; have hcz29_3 : w27.cell? ⟨gb140, 3, none⟩ = some (.slice none 0 0) := (blk_cell BK140.out 3).trans rfl; have hfz29_0 := blk_frozen BK140.out 0; have hfz29_1 := blk_frozen BK140.out 1; have hfz29_2 := blk_frozen BK140.out 2; have hfz29_3 := blk_frozen BK140.out 3))
                      have n0_ : Aside0 (((((w27.setCell ⟨gb140, 0, none⟩ (.int .i64 ((rd_T44 ((rd_T72 l0 0).f2.f0) a1).f0))).setCell ⟨gb140, 1, none⟩ (.int .i64 ((rd_T44 ((rd_T72 l0 0).f2.f0) a1).f1))).setCell ⟨gb140, 2, none⟩ (.int .i64 ((rd_T44 ((rd_T72 l0 0).f2.f0) a1).f2))).setCell ⟨gb140, 3, none⟩ (.slice A139_3 ((rd_T44 ((rd_T72 l0 0).f2.f0) a1).f3).length c139_3)).heap[gb136]? = some (.cells #[.int .i64 0, .int .i64 0] 40 (0, 0))) := ⟨by (with_reducible repeat (first | refine blk_drewN ?_ _ | refine blk_drew ?_ | refine blk_alloc ?_ _)); refine blk_far ?_ NB136_140.out _; (with_reducible repeat (first | refine blk_drewN ?_ _ | refine blk_drew ?_ | refine blk_alloc ?_ _)); refine blk_far ?_ NB136_140.out _; (with_reducible repeat (first | refine blk_drewN ?_ _ | refine blk_drew ?_ | refine blk_alloc ?_ _)); refine blk_far ?_ NB136_140.out _; (with_reducible repeat (first | refine blk_drewN ?_ _ | refine blk_drew ?_ | refine blk_alloc ?_ _)); refine blk_far ?_ NB136_140.out _; (with_reducible repeat (first | refine blk_drewN ?_ _ | refine blk_drew ?_ | refine blk_alloc ?_ _)); exact BK136.out⟩
                      have n1_ : Aside0 (((((w27.setCell ⟨gb140, 0, none⟩ (.int .i64 ((rd_T44 ((rd_T72 l0 0).f2.f0) a1).f0))).setCell ⟨gb140, 1, none⟩ (.int .i64 ((rd_T44 ((rd_T72 l0 0).f2.f0) a1).f1))).setCell ⟨gb140, 2, none⟩ (.int .i64 ((rd_T44 ((rd_T72 l0 0).f2.f0) a1).f2))).setCell ⟨gb140, 3, none⟩ (.slice A139_3 ((rd_T44 ((rd_T72 l0 0).f2.f0) a1).f3).length c139_3)).heap[gb140]? = some (.cells #[.int .i64 ((rd_T44 ((rd_T72 l0 0).f2.f0) a1).f0), .int .i64 ((rd_T44 ((rd_T72 l0 0).f2.f0) a1).f1), .int .i64 ((rd_T44 ((rd_T72 l0 0).f2.f0) a1).f2), .slice A139_3 ((rd_T44 ((rd_T72 l0 0).f2.f0) a1).f3).length c139_3] 44 (0, 0))) := ⟨by (with_reducible repeat (first | refine blk_drewN ?_ _ | refine blk_drew ?_ | refine blk_alloc ?_ _)); refine blk_put (cs := #[.int .i64 ((rd_T44 ((rd_T72 l0 0).f2.f0) a1).f0), .int .i64 ((rd_T44 ((rd_T72 l0 0).f2.f0) a1).f1), .int .i64 ((rd_T44 ((rd_T72 l0 0).f2.f0) a1).f2), .slice none 0 0]) ?_ 3 _ rfl; (with_reducible repeat (first | refine blk_drewN ?_ _ | refine blk_drew ?_ | refine blk_alloc ?_ _)); refine blk_put (cs := #[.int .i64 ((rd_T44 ((rd_T72 l0 0).f2.f0) a1).f0), .int .i64 ((rd_T44 ((rd_T72 l0 0).f2.f0) a1).f1), .int .i64 0, .slice none 0 0]) ?_ 2 _ rfl; (with_reducible repeat (first | refine blk_drewN ?_ _ | refine blk_drew ?_ | refine blk_alloc ?_ _)); refine blk_put (cs := #[.int .i64 ((rd_T44 ((rd_T72 l0 0).f2.f0) a1).f0), .int .i64 0, .int .i64 0, .slice none 0 0]) ?_ 1 _ rfl; (with_reducible repeat (first | refine blk_drewN ?_ _ | refine blk_drew ?_ | refine blk_alloc ?_ _)); refine blk_put (cs := #[.int .i64 0, .int .i64 0, .int .i64 0, .slice none 0 0]) ?_ 0 _ rfl; (with_reducible repeat (first | refine blk_drewN ?_ _ | refine blk_drew ?_ | refine blk_alloc ?_ _)); exact BK140.out⟩
                      have n2_ : Aside0 (Below w.heap.size w ((((w27.setCell ⟨gb140, 0, none⟩ (.int .i64 ((rd_T44 ((rd_T72 l0 0).f2.f0) a1).f0))).setCell ⟨gb140, 1, none⟩ (.int .i64 ((rd_T44 ((rd_T72 l0 0).f2.f0) a1).f1))).setCell ⟨gb140, 2, none⟩ (.int .i64 ((rd_T44 ((rd_T72 l0 0).f2.f0) a1).f2))).setCell ⟨gb140, 3, none⟩ (.slice A139_3 ((rd_T44 ((rd_T72 l0 0).f2.f0) a1).f3).length c139_3))) := ⟨by repeat (first | (with_reducible first | exact HB.out | apply below_alloc | apply pw_below_drewN | apply below_drew1 | refine below_set ?_ GE136.out | refine below_set ?_ GE140.out) | exact HB.out)⟩
                      (try clear BK136)
                      (try clear BK140)
                      (try clear HB)
                      generalize ((((w27.setCell ⟨gb140, 0, none⟩ (.int .i64 ((rd_T44 ((rd_T72 l0 0).f2.f0) a1).f0))).setCell ⟨gb140, 1, none⟩ (.int .i64 ((rd_T44 ((rd_T72 l0 0).f2.f0) a1).f1))).setCell ⟨gb140, 2, none⟩ (.int .i64 ((rd_T44 ((rd_T72 l0 0).f2.f0) a1).f2))).setCell ⟨gb140, 3, none⟩ (.slice A139_3 ((rd_T44 ((rd_T72 l0 0).f2.f0) a1).f3).length c139_3)) = w30 at n0_ n1_ n2_ ⊢
                      have BK136 := n0_
                      have BK140 := n1_
                      have HB := n2_
                      clear n0_ n1_ n2_
                      have n0_ := Aside0.mk (blk_drew BK136.out)
                      have n1_ := Aside0.mk (blk_drew BK140.out)
                      have n2_ := Aside0.mk (below_drew1 HB.out)
                      clear BK136
                      clear BK140
                      clear HB
                      have BK136 := n0_
                      have BK140 := n1_
                      have HB := n2_
                      clear n0_ n1_ n2_
                      have p145 : 0 ≤ (0 : Int) := (by omega)
                      have q145 : 0 < (l0.length : Int) := of_decide_eq_true (by first | (with_reducible assumption) | assumption)
                      obtain ⟨ad145, A145_0, c145_0, A145_1, c145_1, A145_2, c145_2, e145, hx145_0, hx145_1, hx145_2, hl145_0, hi145_0, hl145_1, hi145_1, hl145_2, hi145_2⟩ := at_T72 HR0.out 0 p145 q145
                      have hw145_2 := hx145_2
                      (try rw [show ((0 : Int)).toNat = 0 from rfl] at hw145_2)
                      (try rw [show 0 * 3 = 0 from rfl] at hw145_2)
                      (try rw [Addr.add_zero'] at hw145_2)
                      have hw145_1 := hx145_1
                      (try rw [show ((0 : Int)).toNat = 0 from rfl] at hw145_1)
                      (try rw [show 0 * 3 = 0 from rfl] at hw145_1)
                      (try rw [Addr.add_zero'] at hw145_1)
                      have hw145_0 := hx145_0
                      (try rw [show ((0 : Int)).toNat = 0 from rfl] at hw145_0)
                      (try rw [show 0 * 3 = 0 from rfl] at hw145_0)
                      (try rw [Addr.add_zero'] at hw145_0)
                      obtain rfl : ad135 = ad145 := (by injection e145)
                      have qi145 : (0 < l0.length) = True := eq_true (by omega)
                      (try rw [show ((0 : Int)).toNat = 0 from rfl] at hx145_0)
                      (try rw [show 0 * 3 = 0 from rfl] at hx145_0)
                      (try rw [Addr.add_zero'] at hx145_0)
                      (try rw [show ((0 : Int)).toNat = 0 from rfl] at hx145_1)
                      (try rw [show 0 * 3 = 0 from rfl] at hx145_1)
                      (try rw [Addr.add_zero'] at hx145_1)
                      (try rw [show ((0 : Int)).toNat = 0 from rfl] at hx145_2)
                      (try rw [show 0 * 3 = 0 from rfl] at hx145_2)
                      (try rw [Addr.add_zero'] at hx145_2)
                      replace hx145_0 := (HB.out.cell (World.block_lt_of_cell? w _ hx145_0)).trans hx145_0
                      replace hx145_1 := (HB.out.cell (World.block_lt_of_cell? w _ hx145_1)).trans hx145_1
                      replace hx145_2 := (HB.out.cell (World.block_lt_of_cell? w _ hx145_2)).trans hx145_2
                      have HR145_0 := Aside0.mk hi145_0
                      have HC145_0 := Aside0.mk hl145_0
                      clear hi145_0 hl145_0
                      have HR145_1 := Aside0.mk hi145_1
                      have HC145_1 := Aside0.mk hl145_1
                      clear hi145_1 hl145_1
                      have HR145_2 := Aside0.mk hi145_2
                      have HC145_2 := Aside0.mk hl145_2
                      clear hi145_2 hl145_2
                      replace p145 := eq_true p145
                      replace q145 := eq_true q145
                      refine start_ (n := 9) (S := fun w' => w'.cell? ⟨gb140, 0, none⟩ = some (.int .i64 ((rd_T44 ((rd_T72 l0 0).f2.f0) a1).f0)) ∧ w'.cell? ⟨gb140, 1, none⟩ = some (.int .i64 ((rd_T44 ((rd_T72 l0 0).f2.f0) a1).f1)) ∧ w'.cell? ⟨gb140, 2, none⟩ = some (.int .i64 ((rd_T44 ((rd_T72 l0 0).f2.f0) a1).f2)) ∧ w'.cell? ⟨gb140, 3, none⟩ = some (.slice A139_3 ((rd_T44 ((rd_T72 l0 0).f2.f0) a1).f3).length c139_3) ∧ w'.cell? ad135 = some (.slice A145_0 ((rd_T72 l0 0).f0).length c145_0) ∧ w'.cell? ⟨ad135.block, ad135.off + 1, none⟩ = some (.slice A145_1 ((rd_T72 l0 0).f1).length c145_1) ∧ w'.cell? ⟨ad135.block, ad135.off + 2, none⟩ = some (.slice A145_2 ((rd_T72 l0 0).f2.f0).length c145_2)) (ds := []) #[false, false, false, false, false, false, false, false, false] (by kernel_rfl) rfl rfl ⟨(blk_cell BK140.out 0).trans rfl, (blk_cell BK140.out 1).trans rfl, (blk_cell BK140.out 2).trans rfl, (blk_cell BK140.out 3).trans rfl, ((HB.out.cell (World.block_lt_of_cell? w _ hw145_0)).trans hw145_0), ((HB.out.cell (World.block_lt_of_cell? w _ hw145_1)).trans hw145_1), ((HB.out.cell (World.block_lt_of_cell? w _ hw145_2)).trans hw145_2)⟩ (fun hHeld => ?_); refine with_tabW view_File_Span.tab6 view_File_Span.bits6 (fun HT_ HW_ => ?_)
                      generalize w30.drew = w31 at BK136 BK140 HB HR145_0 HR145_1 HR145_2 hx145_0 hx145_1 hx145_2 hHeld ⊢
                      refine pure_ (i := 0) (N := some 59) (v := ?_) (a' := ?_) #[true, false, false, false, false, false, false, false, false] rfl rfl (any_of HT_.out (by kernel_rfl)) (fun _ _ _ h => h) (Or.inl ⟨by rfl, ?_⟩) ?_ ?_; rotate_left; { intro w'; go_simp; with_reducible rfl }; rotate_left; { simp only [Act.put, List.setIfInBounds_toArray, List.set_cons_zero, List.set_cons_succ, i64_w, i32_w]; rfl }
                      refine pure_ (i := 2) (N := some 61) (v := ?_) (a' := ?_) #[true, false, true, false, false, false, false, false, false] rfl rfl (any_of HT_.out (by kernel_rfl)) (fun _ _ _ h => h) (Or.inl ⟨by rfl, ?_⟩) ?_ ?_; rotate_left; { intro w'; go_simp; with_reducible rfl }; rotate_left; { simp only [Act.put, List.setIfInBounds_toArray, List.set_cons_zero, List.set_cons_succ, i64_w, i32_w]; rfl }
                      refine pure_ (i := 3) (N := some 62) (v := ?_) (a' := ?_) #[true, false, true, true, false, false, false, false, false] rfl rfl (any_of HT_.out (by kernel_rfl)) (fun _ _ _ h => h) (Or.inl ⟨by rfl, ?_⟩) ?_ ?_; rotate_left; { intro w'; go_simp; with_reducible rfl }; rotate_left; { simp only [Act.put, List.setIfInBounds_toArray, List.set_cons_zero, List.set_cons_succ, i64_w, i32_w]; rfl }
                      refine pure_ (i := 4) (N := some 63) (v := ?_) (a' := ?_) #[true, false, true, true, true, false, false, false, false] rfl rfl (any_of HT_.out (by kernel_rfl)) (fun _ _ _ h => h) (Or.inl ⟨by rfl, ?_⟩) ?_ ?_; rotate_left; { intro w'; go_simp; with_reducible rfl }; rotate_left; { simp only [Act.put, List.setIfInBounds_toArray, List.set_cons_zero, List.set_cons_succ, i64_w, i32_w]; rfl }
                      refine take_ (i := 1) (N := some 60) (v := ?_) (a' := ?_) #[true, true, true, true, true, false, false, false, false] rfl rfl (take_ofW HT_.out HW_.out (by kernel_rfl)) (fun _ _ _ h => h) (Or.inl ⟨by rfl, ?_⟩) hHeld ?_ ?_; rotate_left; { rintro w' ⟨s0, s1, s2, s3, s4, s5, s6⟩; go_simp; with_reducible rfl }; rotate_left; { simp only [Act.put, List.setIfInBounds_toArray, List.set_cons_zero, List.set_cons_succ, i64_w, i32_w]; rfl }
                      refine take_ (i := 5) (N := some 64) (v := ?_) (a' := ?_) #[true, true, true, true, true, true, false, false, false] rfl rfl (take_ofW HT_.out HW_.out (by kernel_rfl)) (fun _ _ _ h => h) (Or.inl ⟨by rfl, ?_⟩) hHeld ?_ ?_; rotate_left; { rintro w' ⟨s0, s1, s2, s3, s4, s5, s6⟩; go_simp; with_reducible rfl }; rotate_left; { simp only [Act.put, List.setIfInBounds_toArray, List.set_cons_zero, List.set_cons_succ, i64_w, i32_w]; rfl }
                      refine pure_ (i := 6) (N := some 65) (v := ?_) (a' := ?_) #[true, true, true, true, true, true, true, false, false] rfl rfl (any_of HT_.out (by kernel_rfl)) (fun _ _ _ h => h) (Or.inl ⟨by rfl, ?_⟩) ?_ ?_; rotate_left; { intro w'; go_simp; with_reducible rfl }; rotate_left; { simp only [Act.put, List.setIfInBounds_toArray, List.set_cons_zero, List.set_cons_succ, i64_w, i32_w]; rfl }
                      refine pure_ (i := 7) (N := some 66) (v := ?_) (a' := ?_) #[true, true, true, true, true, true, true, true, false] rfl rfl (any_of HT_.out (by kernel_rfl)) (fun _ _ _ h => h) (Or.inl ⟨by rfl, ?_⟩) ?_ ?_; rotate_left; { intro w'; go_simp; with_reducible rfl }; rotate_left; { simp only [Act.put, List.setIfInBounds_toArray, List.set_cons_zero, List.set_cons_succ, i64_w, i32_w]; rfl }
                      refine pure_ (i := 8) (N := some 58) (v := ?_) (a' := ?_) #[true, true, true, true, true, true, true, true, true] rfl rfl (any_of HT_.out (by kernel_rfl)) (fun _ _ _ h => h) (Or.inl ⟨by rfl, ?_⟩) ?_ ?_; rotate_left; { intro w'; go_simp; with_reducible rfl }; rotate_left; { simp only [Act.put, List.setIfInBounds_toArray, List.set_cons_zero, List.set_cons_succ, i64_w, i32_w]; rfl }
                      refine done_ (done_of HT_.out (by kernel_rfl)) ?_
                      try go_wp2
                      have n0_ := Aside0.mk (blk_drew BK136.out)
                      have n1_ := Aside0.mk (blk_drew BK140.out)
                      have n2_ := Aside0.mk (below_drew1 HB.out)
                      clear BK136
                      clear BK140
                      clear HB
                      have BK136 := n0_
                      have BK140 := n1_
                      have HB := n2_
                      clear n0_ n1_ n2_
                      have p146 : 0 ≤ (0 : Int) := (by omega)
                      have q146 : 0 < (l0.length : Int) := of_decide_eq_true (by first | (with_reducible assumption) | assumption)
                      obtain ⟨ad146, A146_0, c146_0, A146_1, c146_1, A146_2, c146_2, e146, hx146_0, hx146_1, hx146_2, hl146_0, hi146_0, hl146_1, hi146_1, hl146_2, hi146_2⟩ := at_T72 HR0.out 0 p146 q146
                      have hw146_2 := hx146_2
                      (try rw [show ((0 : Int)).toNat = 0 from rfl] at hw146_2)
                      (try rw [show 0 * 3 = 0 from rfl] at hw146_2)
                      (try rw [Addr.add_zero'] at hw146_2)
                      have hw146_1 := hx146_1
                      (try rw [show ((0 : Int)).toNat = 0 from rfl] at hw146_1)
                      (try rw [show 0 * 3 = 0 from rfl] at hw146_1)
                      (try rw [Addr.add_zero'] at hw146_1)
                      have hw146_0 := hx146_0
                      (try rw [show ((0 : Int)).toNat = 0 from rfl] at hw146_0)
                      (try rw [show 0 * 3 = 0 from rfl] at hw146_0)
                      (try rw [Addr.add_zero'] at hw146_0)
                      obtain rfl : ad135 = ad146 := (by injection e146)
                      have qi146 : (0 < l0.length) = True := eq_true (by omega)
                      (try rw [show ((0 : Int)).toNat = 0 from rfl] at hx146_0)
                      (try rw [show 0 * 3 = 0 from rfl] at hx146_0)
                      (try rw [Addr.add_zero'] at hx146_0)
                      (try rw [show ((0 : Int)).toNat = 0 from rfl] at hx146_1)
                      (try rw [show 0 * 3 = 0 from rfl] at hx146_1)
                      (try rw [Addr.add_zero'] at hx146_1)
                      (try rw [show ((0 : Int)).toNat = 0 from rfl] at hx146_2)
                      (try rw [show 0 * 3 = 0 from rfl] at hx146_2)
                      (try rw [Addr.add_zero'] at hx146_2)
                      replace hx146_0 := (HB.out.cell (World.block_lt_of_cell? w _ hx146_0)).trans hx146_0
                      replace hx146_1 := (HB.out.cell (World.block_lt_of_cell? w _ hx146_1)).trans hx146_1
                      replace hx146_2 := (HB.out.cell (World.block_lt_of_cell? w _ hx146_2)).trans hx146_2
                      have HR146_0 := Aside0.mk hi146_0
                      have HC146_0 := Aside0.mk hl146_0
                      clear hi146_0 hl146_0
                      have HR146_1 := Aside0.mk hi146_1
                      have HC146_1 := Aside0.mk hl146_1
                      clear hi146_1 hl146_1
                      have HR146_2 := Aside0.mk hi146_2
                      have HC146_2 := Aside0.mk hl146_2
                      clear hi146_2 hl146_2
                      replace p146 := eq_true p146
                      replace q146 := eq_true q146
                      have p147 : 0 ≤ (((rd_T44 ((rd_T72 l0 0).f2.f0) a1).f1) : Int) := of_decide_eq_true (by first | (with_reducible assumption) | assumption)
                      have q147 : ((rd_T44 ((rd_T72 l0 0).f2.f0) a1).f1) < (((rd_T72 l0 0).f1).length : Int) := of_decide_eq_true (by first | (with_reducible assumption) | assumption)
                      obtain ⟨ad147, e147, hx147_0, hx147_1, hx147_2, hx147_3, hx147_4⟩ := at_T38 HR146_1.out ((rd_T44 ((rd_T72 l0 0).f2.f0) a1).f1) p147 q147
                      have hw147_4 := hx147_4
                      have hw147_3 := hx147_3
                      have hw147_2 := hx147_2
                      have hw147_1 := hx147_1
                      have hw147_0 := hx147_0
                      cases e147
                      replace hx147_0 := (HB.out.cell (World.block_lt_of_cell? w _ hx147_0)).trans hx147_0
                      replace hx147_1 := (HB.out.cell (World.block_lt_of_cell? w _ hx147_1)).trans hx147_1
                      replace hx147_2 := (HB.out.cell (World.block_lt_of_cell? w _ hx147_2)).trans hx147_2
                      replace hx147_3 := (HB.out.cell (World.block_lt_of_cell? w _ hx147_3)).trans hx147_3
                      replace hx147_4 := (HB.out.cell (World.block_lt_of_cell? w _ hx147_4)).trans hx147_4
                      replace p147 := eq_true p147
                      replace q147 := eq_true q147
                      have p148 : 0 ≤ (0 : Int) := (by omega)
                      have q148 : 0 < (l0.length : Int) := of_decide_eq_true (by first | (with_reducible assumption) | assumption)
                      obtain ⟨ad148, A148_0, c148_0, A148_1, c148_1, A148_2, c148_2, e148, hx148_0, hx148_1, hx148_2, hl148_0, hi148_0, hl148_1, hi148_1, hl148_2, hi148_2⟩ := at_T72 HR0.out 0 p148 q148
                      have hw148_2 := hx148_2
                      (try rw [show ((0 : Int)).toNat = 0 from rfl] at hw148_2)
                      (try rw [show 0 * 3 = 0 from rfl] at hw148_2)
                      (try rw [Addr.add_zero'] at hw148_2)
                      have hw148_1 := hx148_1
                      (try rw [show ((0 : Int)).toNat = 0 from rfl] at hw148_1)
                      (try rw [show 0 * 3 = 0 from rfl] at hw148_1)
                      (try rw [Addr.add_zero'] at hw148_1)
                      have hw148_0 := hx148_0
                      (try rw [show ((0 : Int)).toNat = 0 from rfl] at hw148_0)
                      (try rw [show 0 * 3 = 0 from rfl] at hw148_0)
                      (try rw [Addr.add_zero'] at hw148_0)
                      obtain rfl : ad135 = ad148 := (by injection e148)
                      have qi148 : (0 < l0.length) = True := eq_true (by omega)
                      (try rw [show ((0 : Int)).toNat = 0 from rfl] at hx148_0)
                      (try rw [show 0 * 3 = 0 from rfl] at hx148_0)
                      (try rw [Addr.add_zero'] at hx148_0)
                      (try rw [show ((0 : Int)).toNat = 0 from rfl] at hx148_1)
                      (try rw [show 0 * 3 = 0 from rfl] at hx148_1)
                      (try rw [Addr.add_zero'] at hx148_1)
                      (try rw [show ((0 : Int)).toNat = 0 from rfl] at hx148_2)
                      (try rw [show 0 * 3 = 0 from rfl] at hx148_2)
                      (try rw [Addr.add_zero'] at hx148_2)
                      replace hx148_0 := (HB.out.cell (World.block_lt_of_cell? w _ hx148_0)).trans hx148_0
                      replace hx148_1 := (HB.out.cell (World.block_lt_of_cell? w _ hx148_1)).trans hx148_1
                      replace hx148_2 := (HB.out.cell (World.block_lt_of_cell? w _ hx148_2)).trans hx148_2
                      have HR148_0 := Aside0.mk hi148_0
                      have HC148_0 := Aside0.mk hl148_0
                      clear hi148_0 hl148_0
                      have HR148_1 := Aside0.mk hi148_1
                      have HC148_1 := Aside0.mk hl148_1
                      clear hi148_1 hl148_1
                      have HR148_2 := Aside0.mk hi148_2
                      have HC148_2 := Aside0.mk hl148_2
                      clear hi148_2 hl148_2
                      replace p148 := eq_true p148
                      replace q148 := eq_true q148
                      have ea_ := Option.some.inj (hx146_0.symm.trans hx148_0)
                      injection ea_ with ea_ en_ ec_
                      subst ea_
                      subst ec_
                      clear en_
                      have ea_ := Option.some.inj (hx146_1.symm.trans hx148_1)
                      injection ea_ with ea_ en_ ec_
                      subst ea_
                      subst ec_
                      clear en_
                      have ea_ := Option.some.inj (hx146_2.symm.trans hx148_2)
                      injection ea_ with ea_ en_ ec_
                      subst ea_
                      subst ec_
                      clear en_
                      have p149 : 0 ≤ (((rd_T44 ((rd_T72 l0 0).f2.f0) a1).f1) : Int) := of_decide_eq_true (by first | (with_reducible assumption) | assumption)
                      have q149 : ((rd_T44 ((rd_T72 l0 0).f2.f0) a1).f1) < (((rd_T72 l0 0).f1).length : Int) := of_decide_eq_true (by first | (with_reducible assumption) | assumption)
                      obtain ⟨ad149, e149, hx149_0, hx149_1, hx149_2, hx149_3, hx149_4⟩ := at_T38 HR148_1.out ((rd_T44 ((rd_T72 l0 0).f2.f0) a1).f1) p149 q149
                      have hw149_4 := hx149_4
                      have hw149_3 := hx149_3
                      have hw149_2 := hx149_2
                      have hw149_1 := hx149_1
                      have hw149_0 := hx149_0
                      obtain rfl : ad147 = ad149 := (by injection e149)
                      replace hx149_0 := (HB.out.cell (World.block_lt_of_cell? w _ hx149_0)).trans hx149_0
                      replace hx149_1 := (HB.out.cell (World.block_lt_of_cell? w _ hx149_1)).trans hx149_1
                      replace hx149_2 := (HB.out.cell (World.block_lt_of_cell? w _ hx149_2)).trans hx149_2
                      replace hx149_3 := (HB.out.cell (World.block_lt_of_cell? w _ hx149_3)).trans hx149_3
                      replace hx149_4 := (HB.out.cell (World.block_lt_of_cell? w _ hx149_4)).trans hx149_4
                      replace p149 := eq_true p149
                      replace q149 := eq_true q149
                      refine start_ (n := 20) (S := fun w' => w'.cell? ⟨gb140, 0, none⟩ = some (.int .i64 ((rd_T44 ((rd_T72 l0 0).f2.f0) a1).f0)) ∧ w'.cell? ⟨gb140, 1, none⟩ = some (.int .i64 ((rd_T44 ((rd_T72 l0 0).f2.f0) a1).f1)) ∧ w'.cell? ⟨gb140, 2, none⟩ = some (.int .i64 ((rd_T44 ((rd_T72 l0 0).f2.f0) a1).f2)) ∧ w'.cell? ⟨gb140, 3, none⟩ = some (.slice A139_3 ((rd_T44 ((rd_T72 l0 0).f2.f0) a1).f3).length c139_3) ∧ w'.cell? ad135 = some (.slice A146_0 ((rd_T72 l0 0).f0).length c146_0) ∧ w'.cell? ⟨ad135.block, ad135.off + 1, none⟩ = some (.slice (some ad147) ((rd_T72 l0 0).f1).length c146_1) ∧ w'.cell? ⟨ad135.block, ad135.off + 2, none⟩ = some (.slice A146_2 ((rd_T72 l0 0).f2.f0).length c146_2) ∧ w'.cell? (ad147.add ((((rd_T44 ((rd_T72 l0 0).f2.f0) a1).f1)).toNat * 5)) = some (.int .i64 ((rd_T38 ((rd_T72 l0 0).f1) ((rd_T44 ((rd_T72 l0 0).f2.f0) a1).f1)).f0)) ∧ w'.cell? ⟨(ad147.add ((((rd_T44 ((rd_T72 l0 0).f2.f0) a1).f1)).toNat * 5)).block, (ad147.add ((((rd_T44 ((rd_T72 l0 0).f2.f0) a1).f1)).toNat * 5)).off + 1, none⟩ = some (.int .i64 ((rd_T38 ((rd_T72 l0 0).f1) ((rd_T44 ((rd_T72 l0 0).f2.f0) a1).f1)).f1)) ∧ w'.cell? ⟨(ad147.add ((((rd_T44 ((rd_T72 l0 0).f2.f0) a1).f1)).toNat * 5)).block, (ad147.add ((((rd_T44 ((rd_T72 l0 0).f2.f0) a1).f1)).toNat * 5)).off + 2, none⟩ = some (.int .i64 ((rd_T38 ((rd_T72 l0 0).f1) ((rd_T44 ((rd_T72 l0 0).f2.f0) a1).f1)).f2)) ∧ w'.cell? ⟨(ad147.add ((((rd_T44 ((rd_T72 l0 0).f2.f0) a1).f1)).toNat * 5)).block, (ad147.add ((((rd_T44 ((rd_T72 l0 0).f2.f0) a1).f1)).toNat * 5)).off + 3, none⟩ = some (.bool ((rd_T38 ((rd_T72 l0 0).f1) ((rd_T44 ((rd_T72 l0 0).f2.f0) a1).f1)).f3)) ∧ w'.cell? ⟨(ad147.add ((((rd_T44 ((rd_T72 l0 0).f2.f0) a1).f1)).toNat * 5)).block, (ad147.add ((((rd_T44 ((rd_T72 l0 0).f2.f0) a1).f1)).toNat * 5)).off + 4, none⟩ = some (.int .i64 ((rd_T38 ((rd_T72 l0 0).f1) ((rd_T44 ((rd_T72 l0 0).f2.f0) a1).f1)).f4)) ∧ w'.cell? ad135 = some (.slice A146_0 ((rd_T72 l0 0).f0).length c146_0) ∧ w'.cell? ⟨ad135.block, ad135.off + 1, none⟩ = some (.slice (some ad147) ((rd_T72 l0 0).f1).length c146_1) ∧ w'.cell? ⟨ad135.block, ad135.off + 2, none⟩ = some (.slice A146_2 ((rd_T72 l0 0).f2.f0).length c146_2) ∧ w'.cell? (ad147.add ((((rd_T44 ((rd_T72 l0 0).f2.f0) a1).f1)).toNat * 5)) = some (.int .i64 ((rd_T38 ((rd_T72 l0 0).f1) ((rd_T44 ((rd_T72 l0 0).f2.f0) a1).f1)).f0)) ∧ w'.cell? ⟨(ad147.add ((((rd_T44 ((rd_T72 l0 0).f2.f0) a1).f1)).toNat * 5)).block, (ad147.add ((((rd_T44 ((rd_T72 l0 0).f2.f0) a1).f1)).toNat * 5)).off + 1, none⟩ = some (.int .i64 ((rd_T38 ((rd_T72 l0 0).f1) ((rd_T44 ((rd_T72 l0 0).f2.f0) a1).f1)).f1)) ∧ w'.cell? ⟨(ad147.add ((((rd_T44 ((rd_T72 l0 0).f2.f0) a1).f1)).toNat * 5)).block, (ad147.add ((((rd_T44 ((rd_T72 l0 0).f2.f0) a1).f1)).toNat * 5)).off + 2, none⟩ = some (.int .i64 ((rd_T38 ((rd_T72 l0 0).f1) ((rd_T44 ((rd_T72 l0 0).f2.f0) a1).f1)).f2)) ∧ w'.cell? ⟨(ad147.add ((((rd_T44 ((rd_T72 l0 0).f2.f0) a1).f1)).toNat * 5)).block, (ad147.add ((((rd_T44 ((rd_T72 l0 0).f2.f0) a1).f1)).toNat * 5)).off + 3, none⟩ = some (.bool ((rd_T38 ((rd_T72 l0 0).f1) ((rd_T44 ((rd_T72 l0 0).f2.f0) a1).f1)).f3)) ∧ w'.cell? ⟨(ad147.add ((((rd_T44 ((rd_T72 l0 0).f2.f0) a1).f1)).toNat * 5)).block, (ad147.add ((((rd_T44 ((rd_T72 l0 0).f2.f0) a1).f1)).toNat * 5)).off + 4, none⟩ = some (.int .i64 ((rd_T38 ((rd_T72 l0 0).f1) ((rd_T44 ((rd_T72 l0 0).f2.f0) a1).f1)).f4))) (ds := []) #[false, false, false, false, false, false, false, false, false, false, false, false, false, false, false, false, false, false, false, false] (by kernel_rfl) rfl rfl ⟨(blk_cell BK140.out 0).trans rfl, (blk_cell BK140.out 1).trans rfl, (blk_cell BK140.out 2).trans rfl, (blk_cell BK140.out 3).trans rfl, ((HB.out.cell (World.block_lt_of_cell? w _ hw146_0)).trans hw146_0), ((HB.out.cell (World.block_lt_of_cell? w _ hw146_1)).trans hw146_1), ((HB.out.cell (World.block_lt_of_cell? w _ hw146_2)).trans hw146_2), ((HB.out.cell (World.block_lt_of_cell? w _ hw147_0)).trans hw147_0), ((HB.out.cell (World.block_lt_of_cell? w _ hw147_1)).trans hw147_1), ((HB.out.cell (World.block_lt_of_cell? w _ hw147_2)).trans hw147_2), ((HB.out.cell (World.block_lt_of_cell? w _ hw147_3)).trans hw147_3), ((HB.out.cell (World.block_lt_of_cell? w _ hw147_4)).trans hw147_4), ((HB.out.cell (World.block_lt_of_cell? w _ hw148_0)).trans hw148_0), ((HB.out.cell (World.block_lt_of_cell? w _ hw148_1)).trans hw148_1), ((HB.out.cell (World.block_lt_of_cell? w _ hw148_2)).trans hw148_2), ((HB.out.cell (World.block_lt_of_cell? w _ hw149_0)).trans hw149_0), ((HB.out.cell (World.block_lt_of_cell? w _ hw149_1)).trans hw149_1), ((HB.out.cell (World.block_lt_of_cell? w _ hw149_2)).trans hw149_2), ((HB.out.cell (World.block_lt_of_cell? w _ hw149_3)).trans hw149_3), ((HB.out.cell (World.block_lt_of_cell? w _ hw149_4)).trans hw149_4)⟩ (fun hHeld => ?_); refine with_tabW view_File_Span.tab7 view_File_Span.bits7 (fun HT_ HW_ => ?_)
                      generalize w31.drew = w32 at BK136 BK140 HB HR146_0 HR146_1 HR146_2 HR148_0 HR148_1 HR148_2 hx146_0 hx146_1 hx146_2 hx147_0 hx147_1 hx147_2 hx147_3 hx147_4 hx148_0 hx148_1 hx148_2 hx149_0 hx149_1 hx149_2 hx149_3 hx149_4 hHeld ⊢
                      refine pure_ (i := 0) (N := some 67) (v := ?_) (a' := ?_) (bl_ 20 1) rfl rfl (any_of HT_.out (by kernel_rfl)) (fun _ _ _ h => h) (Or.inl ⟨by rfl, ?_⟩) ?_ ?_; rotate_left; { intro w'; go_simp; with_reducible rfl }; rotate_left; { simp only [Act.put, List.setIfInBounds_toArray, List.set_cons_zero, List.set_cons_succ, i64_w, i32_w]; rfl }
                      refine pure_ (i := 1) (N := some 68) (v := ?_) (a' := ?_) (bl_ 20 3) rfl rfl (any_of HT_.out (by kernel_rfl)) (fun _ _ _ h => h) (Or.inl ⟨by rfl, ?_⟩) ?_ ?_; rotate_left; { intro w'; go_simp; with_reducible rfl }; rotate_left; { simp only [Act.put, List.setIfInBounds_toArray, List.set_cons_zero, List.set_cons_succ, i64_w, i32_w]; rfl }
                      refine pure_ (i := 2) (N := some 69) (v := ?_) (a' := ?_) (bl_ 20 7) rfl rfl (any_of HT_.out (by kernel_rfl)) (fun _ _ _ h => h) (Or.inl ⟨by rfl, ?_⟩) ?_ ?_; rotate_left; { intro w'; go_simp; with_reducible rfl }; rotate_left; { simp only [Act.put, List.setIfInBounds_toArray, List.set_cons_zero, List.set_cons_succ, i64_w, i32_w]; rfl }
                      refine pure_ (i := 4) (N := some 71) (v := ?_) (a' := ?_) (bl_ 20 23) rfl rfl (any_of HT_.out (by kernel_rfl)) (fun _ _ _ h => h) (Or.inl ⟨by rfl, ?_⟩) ?_ ?_; rotate_left; { intro w'; go_simp; with_reducible rfl }; rotate_left; { simp only [Act.put, List.setIfInBounds_toArray, List.set_cons_zero, List.set_cons_succ, i64_w, i32_w]; rfl }
                      refine pure_ (i := 9) (N := some 76) (v := ?_) (a' := ?_) (bl_ 20 535) rfl rfl (any_of HT_.out (by kernel_rfl)) (fun _ _ _ h => h) (Or.inl ⟨by rfl, ?_⟩) ?_ ?_; rotate_left; { intro w'; go_simp; with_reducible rfl }; rotate_left; { simp only [Act.put, List.setIfInBounds_toArray, List.set_cons_zero, List.set_cons_succ, i64_w, i32_w]; rfl }
                      refine pure_ (i := 10) (N := some 77) (v := ?_) (a' := ?_) (bl_ 20 1559) rfl rfl (any_of HT_.out (by kernel_rfl)) (fun _ _ _ h => h) (Or.inl ⟨by rfl, ?_⟩) ?_ ?_; rotate_left; { intro w'; go_simp; with_reducible rfl }; rotate_left; { simp only [Act.put, List.setIfInBounds_toArray, List.set_cons_zero, List.set_cons_succ, i64_w, i32_w]; rfl }
                      refine pure_ (i := 11) (N := some 78) (v := ?_) (a' := ?_) (bl_ 20 3607) rfl rfl (any_of HT_.out (by kernel_rfl)) (fun _ _ _ h => h) (Or.inl ⟨by rfl, ?_⟩) ?_ ?_; rotate_left; { intro w'; go_simp; with_reducible rfl }; rotate_left; { simp only [Act.put, List.setIfInBounds_toArray, List.set_cons_zero, List.set_cons_succ, i64_w, i32_w]; rfl }
                      refine pure_ (i := 13) (N := some 80) (v := ?_) (a' := ?_) (bl_ 20 11799) rfl rfl (any_of HT_.out (by kernel_rfl)) (fun _ _ _ h => h) (Or.inl ⟨by rfl, ?_⟩) ?_ ?_; rotate_left; { intro w'; go_simp; with_reducible rfl }; rotate_left; { simp only [Act.put, List.setIfInBounds_toArray, List.set_cons_zero, List.set_cons_succ, i64_w, i32_w]; rfl }
                      refine take_ (i := 3) (N := some 70) (v := ?_) (a' := ?_) (bl_ 20 11807) rfl rfl (take_ofW HT_.out HW_.out (by kernel_rfl)) (fun _ _ _ h => h) (Or.inl ⟨by rfl, ?_⟩) hHeld ?_ ?_; rotate_left; { rintro w' ⟨s0, s1, s2, s3, s4, s5, s6, s7, s8, s9, s10, s11, s12, s13, s14, s15, s16, s17, s18, s19⟩; go_simp; with_reducible rfl }; rotate_left; { simp only [Act.put, List.setIfInBounds_toArray, List.set_cons_zero, List.set_cons_succ, i64_w, i32_w]; rfl }
                      refine take_ (i := 5) (N := some 72) (v := ?_) (a' := ?_) (bl_ 20 11839) rfl rfl (take_ofW HT_.out HW_.out (by kernel_rfl)) (fun _ _ _ h => h) (Or.inl ⟨by rfl, ?_⟩) hHeld ?_ ?_; rotate_left; { rintro w' ⟨s0, s1, s2, s3, s4, s5, s6, s7, s8, s9, s10, s11, s12, s13, s14, s15, s16, s17, s18, s19⟩; go_simp; with_reducible rfl }; rotate_left; { simp only [Act.put, List.setIfInBounds_toArray, List.set_cons_zero, List.set_cons_succ, i64_w, i32_w]; rfl }
                      refine pure_ (i := 6) (N := some 73) (v := ?_) (a' := ?_) (bl_ 20 11903) rfl rfl (any_of HT_.out (by kernel_rfl)) (fun _ _ _ h => h) (Or.inl ⟨by rfl, ?_⟩) ?_ ?_; rotate_left; { intro w'; go_simp; with_reducible rfl }; rotate_left; { simp only [Act.put, List.setIfInBounds_toArray, List.set_cons_zero, List.set_cons_succ, i64_w, i32_w]; rfl }
                      refine pure_ (i := 7) (N := some 74) (v := ?_) (a' := ?_) (bl_ 20 12031) rfl rfl (any_of HT_.out (by kernel_rfl)) (fun _ _ _ h => h) (Or.inl ⟨by rfl, ?_⟩) ?_ ?_; rotate_left; { intro w'; go_simp; with_reducible rfl }; rotate_left; { simp only [Act.put, List.setIfInBounds_toArray, List.set_cons_zero, List.set_cons_succ, i64_w, i32_w]; rfl }
                      refine take_ (i := 8) (N := some 75) (v := ?_) (a' := ?_) (bl_ 20 12287) rfl rfl (take_ofW HT_.out HW_.out (by kernel_rfl)) (fun _ _ _ h => h) (Or.inl ⟨by rfl, ?_⟩) hHeld ?_ ?_; rotate_left; { rintro w' ⟨s0, s1, s2, s3, s4, s5, s6, s7, s8, s9, s10, s11, s12, s13, s14, s15, s16, s17, s18, s19⟩; go_simp; with_reducible rfl }; rotate_left; { simp only [Act.put, List.setIfInBounds_toArray, List.set_cons_zero, List.set_cons_succ, i64_w, i32_w]; rfl }
                      refine take_ (i := 12) (N := some 79) (v := ?_) (a' := ?_) (bl_ 20 16383) rfl rfl (take_ofW HT_.out HW_.out (by kernel_rfl)) (fun _ _ _ h => h) (Or.inl ⟨by rfl, ?_⟩) hHeld ?_ ?_; rotate_left; { rintro w' ⟨s0, s1, s2, s3, s4, s5, s6, s7, s8, s9, s10, s11, s12, s13, s14, s15, s16, s17, s18, s19⟩; go_simp; with_reducible rfl }; rotate_left; { simp only [Act.put, List.setIfInBounds_toArray, List.set_cons_zero, List.set_cons_succ, i64_w, i32_w]; rfl }
                      refine take_ (i := 14) (N := some 81) (v := ?_) (a' := ?_) (bl_ 20 32767) rfl rfl (take_ofW HT_.out HW_.out (by kernel_rfl)) (fun _ _ _ h => h) (Or.inl ⟨by rfl, ?_⟩) hHeld ?_ ?_; rotate_left; { rintro w' ⟨s0, s1, s2, s3, s4, s5, s6, s7, s8, s9, s10, s11, s12, s13, s14, s15, s16, s17, s18, s19⟩; go_simp; with_reducible rfl }; rotate_left; { simp only [Act.put, List.setIfInBounds_toArray, List.set_cons_zero, List.set_cons_succ, i64_w, i32_w]; rfl }
                      refine pure_ (i := 15) (N := some 82) (v := ?_) (a' := ?_) (bl_ 20 65535) rfl rfl (any_of HT_.out (by kernel_rfl)) (fun _ _ _ h => h) (Or.inl ⟨by rfl, ?_⟩) ?_ ?_; rotate_left; { intro w'; go_simp; with_reducible rfl }; rotate_left; { simp only [Act.put, List.setIfInBounds_toArray, List.set_cons_zero, List.set_cons_succ, i64_w, i32_w]; rfl }
                      refine pure_ (i := 16) (N := some 83) (v := ?_) (a' := ?_) (bl_ 20 131071) rfl rfl (any_of HT_.out (by kernel_rfl)) (fun _ _ _ h => h) (Or.inl ⟨by rfl, ?_⟩) ?_ ?_; rotate_left; { intro w'; go_simp; with_reducible rfl }; rotate_left; { simp only [Act.put, List.setIfInBounds_toArray, List.set_cons_zero, List.set_cons_succ, i64_w, i32_w]; rfl }
                      refine take_ (i := 17) (N := some 84) (v := ?_) (a' := ?_) (bl_ 20 262143) rfl rfl (take_ofW HT_.out HW_.out (by kernel_rfl)) (fun _ _ _ h => h) (Or.inl ⟨by rfl, ?_⟩) hHeld ?_ ?_; rotate_left; { rintro w' ⟨s0, s1, s2, s3, s4, s5, s6, s7, s8, s9, s10, s11, s12, s13, s14, s15, s16, s17, s18, s19⟩; go_simp; with_reducible rfl }; rotate_left; { simp only [Act.put, List.setIfInBounds_toArray, List.set_cons_zero, List.set_cons_succ, i64_w, i32_w]; rfl }
                      refine pure_ (i := 18) (N := some 85) (v := ?_) (a' := ?_) (bl_ 20 524287) rfl rfl (any_of HT_.out (by kernel_rfl)) (fun _ _ _ h => h) (Or.inl ⟨by rfl, ?_⟩) ?_ ?_; rotate_left; { intro w'; go_simp; with_reducible rfl }; rotate_left; { simp only [Act.put, List.setIfInBounds_toArray, List.set_cons_zero, List.set_cons_succ, i64_w, i32_w]; rfl }
                      refine one_ (i := 19) (N := none) (bl_ 20 1048575) rfl rfl (one_of HT_.out (by kernel_rfl)) (by decide) (fun K hK => ?_)
                      have hs33 : w32.cell? ⟨gb136, 0, none⟩ = some (.int .i64 0) := (blk_cell BK136.out 0).trans rfl
                      have hfs33 := blk_frozen BK136.out 0
                      have hns33_1 := NB140_136.out
                      have hms33_1 := NB136_140.out
                      have hs34 : w32.cell? ⟨gb136, 1, none⟩ = some (.int .i64 0) := (blk_cell BK136.out 1).trans rfl
                      have hfs34 := blk_frozen BK136.out 1
                      have hns34_1 := NB140_136.out
                      have hms34_1 := NB136_140.out
                      refine skip_ (w1 := ?_) (by rfl) rfl ?_ ?_; rotate_left; { go_simp; rfl }
                      refine hK.out _ _ ⟨((cell_far (p := ⟨gb136, _, none⟩) NB140_136.out _).trans (((cell_far (p := ⟨gb136, _, none⟩) NB140_136.out _).trans (hHeld.1)))), ((cell_far (p := ⟨gb136, _, none⟩) NB140_136.out _).trans (((cell_far (p := ⟨gb136, _, none⟩) NB140_136.out _).trans (hHeld.2.1)))), ((cell_far (p := ⟨gb136, _, none⟩) NB140_136.out _).trans (((cell_far (p := ⟨gb136, _, none⟩) NB140_136.out _).trans (hHeld.2.2.1)))), ((cell_far (p := ⟨gb136, _, none⟩) NB140_136.out _).trans (((cell_far (p := ⟨gb136, _, none⟩) NB140_136.out _).trans (hHeld.2.2.2.1)))), ((cell_far (p := ⟨gb136, _, none⟩) (by first | exact ne_c hw146_0 GW136.out | exact ne_c2 hw146_0 GW136.out | (rw [add_block]; exact ne_c2 hw146_0 GW136.out) | (dsimp only; exact ne_c hw146_0 GW136.out)) _).trans (((cell_far (p := ⟨gb136, _, none⟩) (by first | exact ne_c hw146_0 GW136.out | exact ne_c2 hw146_0 GW136.out | (rw [add_block]; exact ne_c2 hw146_0 GW136.out) | (dsimp only; exact ne_c hw146_0 GW136.out)) _).trans (hHeld.2.2.2.2.1)))), ((cell_far (p := ⟨gb136, _, none⟩) (by first | exact ne_c hw146_1 GW136.out | exact ne_c2 hw146_1 GW136.out | (rw [add_block]; exact ne_c2 hw146_1 GW136.out) | (dsimp only; exact ne_c hw146_1 GW136.out)) _).trans (((cell_far (p := ⟨gb136, _, none⟩) (by first | exact ne_c hw146_1 GW136.out | exact ne_c2 hw146_1 GW136.out | (rw [add_block]; exact ne_c2 hw146_1 GW136.out) | (dsimp only; exact ne_c hw146_1 GW136.out)) _).trans (hHeld.2.2.2.2.2.1)))), ((cell_far (p := ⟨gb136, _, none⟩) (by first | exact ne_c hw146_2 GW136.out | exact ne_c2 hw146_2 GW136.out | (rw [add_block]; exact ne_c2 hw146_2 GW136.out) | (dsimp only; exact ne_c hw146_2 GW136.out)) _).trans (((cell_far (p := ⟨gb136, _, none⟩) (by first | exact ne_c hw146_2 GW136.out | exact ne_c2 hw146_2 GW136.out | (rw [add_block]; exact ne_c2 hw146_2 GW136.out) | (dsimp only; exact ne_c hw146_2 GW136.out)) _).trans (hHeld.2.2.2.2.2.2.1)))), ((cell_far (p := ⟨gb136, _, none⟩) (by first | exact ne_c hw147_0 GW136.out | exact ne_c2 hw147_0 GW136.out | (rw [add_block]; exact ne_c2 hw147_0 GW136.out) | (dsimp only; exact ne_c hw147_0 GW136.out)) _).trans (((cell_far (p := ⟨gb136, _, none⟩) (by first | exact ne_c hw147_0 GW136.out | exact ne_c2 hw147_0 GW136.out | (rw [add_block]; exact ne_c2 hw147_0 GW136.out) | (dsimp only; exact ne_c hw147_0 GW136.out)) _).trans (hHeld.2.2.2.2.2.2.2.1)))), ((cell_far (p := ⟨gb136, _, none⟩) (by first | exact ne_c hw147_1 GW136.out | exact ne_c2 hw147_1 GW136.out | (rw [add_block]; exact ne_c2 hw147_1 GW136.out) | (dsimp only; exact ne_c hw147_1 GW136.out)) _).trans (((cell_far (p := ⟨gb136, _, none⟩) (by first | exact ne_c hw147_1 GW136.out | exact ne_c2 hw147_1 GW136.out | (rw [add_block]; exact ne_c2 hw147_1 GW136.out) | (dsimp only; exact ne_c hw147_1 GW136.out)) _).trans (hHeld.2.2.2.2.2.2.2.2.1)))), ((cell_far (p := ⟨gb136, _, none⟩) (by first | exact ne_c hw147_2 GW136.out | exact ne_c2 hw147_2 GW136.out | (rw [add_block]; exact ne_c2 hw147_2 GW136.out) | (dsimp only; exact ne_c hw147_2 GW136.out)) _).trans (((cell_far (p := ⟨gb136, _, none⟩) (by first | exact ne_c hw147_2 GW136.out | exact ne_c2 hw147_2 GW136.out | (rw [add_block]; exact ne_c2 hw147_2 GW136.out) | (dsimp only; exact ne_c hw147_2 GW136.out)) _).trans (hHeld.2.2.2.2.2.2.2.2.2.1)))), ((cell_far (p := ⟨gb136, _, none⟩) (by first | exact ne_c hw147_3 GW136.out | exact ne_c2 hw147_3 GW136.out | (rw [add_block]; exact ne_c2 hw147_3 GW136.out) | (dsimp only; exact ne_c hw147_3 GW136.out)) _).trans (((cell_far (p := ⟨gb136, _, none⟩) (by first | exact ne_c hw147_3 GW136.out | exact ne_c2 hw147_3 GW136.out | (rw [add_block]; exact ne_c2 hw147_3 GW136.out) | (dsimp only; exact ne_c hw147_3 GW136.out)) _).trans (hHeld.2.2.2.2.2.2.2.2.2.2.1)))), ((cell_far (p := ⟨gb136, _, none⟩) (by first | exact ne_c hw147_4 GW136.out | exact ne_c2 hw147_4 GW136.out | (rw [add_block]; exact ne_c2 hw147_4 GW136.out) | (dsimp only; exact ne_c hw147_4 GW136.out)) _).trans (((cell_far (p := ⟨gb136, _, none⟩) (by first | exact ne_c hw147_4 GW136.out | exact ne_c2 hw147_4 GW136.out | (rw [add_block]; exact ne_c2 hw147_4 GW136.out) | (dsimp only; exact ne_c hw147_4 GW136.out)) _).trans (hHeld.2.2.2.2.2.2.2.2.2.2.2.1)))), ((cell_far (p := ⟨gb136, _, none⟩) (by first | exact ne_c hw148_0 GW136.out | exact ne_c2 hw148_0 GW136.out | (rw [add_block]; exact ne_c2 hw148_0 GW136.out) | (dsimp only; exact ne_c hw148_0 GW136.out)) _).trans (((cell_far (p := ⟨gb136, _, none⟩) (by first | exact ne_c hw148_0 GW136.out | exact ne_c2 hw148_0 GW136.out | (rw [add_block]; exact ne_c2 hw148_0 GW136.out) | (dsimp only; exact ne_c hw148_0 GW136.out)) _).trans (hHeld.2.2.2.2.2.2.2.2.2.2.2.2.1)))), ((cell_far (p := ⟨gb136, _, none⟩) (by first | exact ne_c hw148_1 GW136.out | exact ne_c2 hw148_1 GW136.out | (rw [add_block]; exact ne_c2 hw148_1 GW136.out) | (dsimp only; exact ne_c hw148_1 GW136.out)) _).trans (((cell_far (p := ⟨gb136, _, none⟩) (by first | exact ne_c hw148_1 GW136.out | exact ne_c2 hw148_1 GW136.out | (rw [add_block]; exact ne_c2 hw148_1 GW136.out) | (dsimp only; exact ne_c hw148_1 GW136.out)) _).trans (hHeld.2.2.2.2.2.2.2.2.2.2.2.2.2.1)))), ((cell_far (p := ⟨gb136, _, none⟩) (by first | exact ne_c hw148_2 GW136.out | exact ne_c2 hw148_2 GW136.out | (rw [add_block]; exact ne_c2 hw148_2 GW136.out) | (dsimp only; exact ne_c hw148_2 GW136.out)) _).trans (((cell_far (p := ⟨gb136, _, none⟩) (by first | exact ne_c hw148_2 GW136.out | exact ne_c2 hw148_2 GW136.out | (rw [add_block]; exact ne_c2 hw148_2 GW136.out) | (dsimp only; exact ne_c hw148_2 GW136.out)) _).trans (hHeld.2.2.2.2.2.2.2.2.2.2.2.2.2.2.1)))), ((cell_far (p := ⟨gb136, _, none⟩) (by first | exact ne_c hw149_0 GW136.out | exact ne_c2 hw149_0 GW136.out | (rw [add_block]; exact ne_c2 hw149_0 GW136.out) | (dsimp only; exact ne_c hw149_0 GW136.out)) _).trans (((cell_far (p := ⟨gb136, _, none⟩) (by first | exact ne_c hw149_0 GW136.out | exact ne_c2 hw149_0 GW136.out | (rw [add_block]; exact ne_c2 hw149_0 GW136.out) | (dsimp only; exact ne_c hw149_0 GW136.out)) _).trans (hHeld.2.2.2.2.2.2.2.2.2.2.2.2.2.2.2.1)))), ((cell_far (p := ⟨gb136, _, none⟩) (by first | exact ne_c hw149_1 GW136.out | exact ne_c2 hw149_1 GW136.out | (rw [add_block]; exact ne_c2 hw149_1 GW136.out) | (dsimp only; exact ne_c hw149_1 GW136.out)) _).trans (((cell_far (p := ⟨gb136, _, none⟩) (by first | exact ne_c hw149_1 GW136.out | exact ne_c2 hw149_1 GW136.out | (rw [add_block]; exact ne_c2 hw149_1 GW136.out) | (dsimp only; exact ne_c hw149_1 GW136.out)) _).trans (hHeld.2.2.2.2.2.2.2.2.2.2.2.2.2.2.2.2.1)))), ((cell_far (p := ⟨gb136, _, none⟩) (by first | exact ne_c hw149_2 GW136.out | exact ne_c2 hw149_2 GW136.out | (rw [add_block]; exact ne_c2 hw149_2 GW136.out) | (dsimp only; exact ne_c hw149_2 GW136.out)) _).trans (((cell_far (p := ⟨gb136, _, none⟩) (by first | exact ne_c hw149_2 GW136.out | exact ne_c2 hw149_2 GW136.out | (rw [add_block]; exact ne_c2 hw149_2 GW136.out) | (dsimp only; exact ne_c hw149_2 GW136.out)) _).trans (hHeld.2.2.2.2.2.2.2.2.2.2.2.2.2.2.2.2.2.1)))), ((cell_far (p := ⟨gb136, _, none⟩) (by first | exact ne_c hw149_3 GW136.out | exact ne_c2 hw149_3 GW136.out | (rw [add_block]; exact ne_c2 hw149_3 GW136.out) | (dsimp only; exact ne_c hw149_3 GW136.out)) _).trans (((cell_far (p := ⟨gb136, _, none⟩) (by first | exact ne_c hw149_3 GW136.out | exact ne_c2 hw149_3 GW136.out | (rw [add_block]; exact ne_c2 hw149_3 GW136.out) | (dsimp only; exact ne_c hw149_3 GW136.out)) _).trans (hHeld.2.2.2.2.2.2.2.2.2.2.2.2.2.2.2.2.2.2.1)))), ((cell_far (p := ⟨gb136, _, none⟩) (by first | exact ne_c hw149_4 GW136.out | exact ne_c2 hw149_4 GW136.out | (rw [add_block]; exact ne_c2 hw149_4 GW136.out) | (dsimp only; exact ne_c hw149_4 GW136.out)) _).trans (((cell_far (p := ⟨gb136, _, none⟩) (by first | exact ne_c hw149_4 GW136.out | exact ne_c2 hw149_4 GW136.out | (rw [add_block]; exact ne_c2 hw149_4 GW136.out) | (dsimp only; exact ne_c hw149_4 GW136.out)) _).trans (hHeld.2.2.2.2.2.2.2.2.2.2.2.2.2.2.2.2.2.2.2))))⟩ (fun hHeld => ?_)
                      clear hK K
                      refine done_ (done_of HT_.out (by kernel_rfl)) ?_
                      try go_wp2
                      refine bodyPost_ret (results_cell_row rfl _ _ gb136 40 #[.int .i64 ((rd_T38 ((rd_T72 l0 0).f1) ((rd_T44 ((rd_T72 l0 0).f2.f0) a1).f1)).f1), .int .i64 ((rd_T38 ((rd_T72 l0 0).f1) ((rd_T44 ((rd_T72 l0 0).f2.f0) a1).f1)).f1)] (0, 0) _ rfl (by (with_reducible repeat (first | refine blk_drewN ?_ _ | refine blk_drew ?_ | refine blk_alloc ?_ _)); refine blk_put (cs := #[.int .i64 ((rd_T38 ((rd_T72 l0 0).f1) ((rd_T44 ((rd_T72 l0 0).f2.f0) a1).f1)).f1), .int .i64 0]) ?_ 1 _ rfl; (with_reducible repeat (first | refine blk_drewN ?_ _ | refine blk_drew ?_ | refine blk_alloc ?_ _)); refine blk_put (cs := #[.int .i64 0, .int .i64 0]) ?_ 0 _ rfl; (with_reducible repeat (first | refine blk_drewN ?_ _ | refine blk_drew ?_ | refine blk_alloc ?_ _)); exact BK136.out) Try.underlying40 rfl (by kernel_rfl)) rfl ?_
                      exact ⟨by first | rfl | (simp [errW_none, errW_some, erT_no, erV_no, erT_at, erV_at] <;> rfl) | (simp [*, errW_none, errW_some, erT_no, erV_no, erT_at, erV_at] <;> rfl), by repeat (first | (with_reducible first | exact HB.out | apply below_alloc | apply pw_below_drewN | apply below_drew1 | refine below_set ?_ GE136.out | refine below_set ?_ GE140.out) | exact HB.out)⟩
                    · rw [if_neg c26] at H
                      exact absurd H (by simp)
                  · rw [if_neg c25] at H
                    have c25b0 : decide (((rd_T44 ((rd_T72 l0 0).f2.f0) a1).f1) < (((rd_T72 l0 0).f1).length : Int)) = false := decide_eq_false c25
                    clear c25
                    by_cases c35 : (((rd_T72 l0 0).f1).length : Int) > 0
                    · rw [if_pos c35] at H
                      have c35b0 : decide (0 < (((rd_T72 l0 0).f1).length : Int)) = true := decide_eq_true c35
                      have c35b1 : decide (0 < ((rd_T72 l0 0).f1).length) = true := decide_eq_true (by omega)
                      clear c35
                      obtain ⟨ji36, hji36⟩ : ∃ j_ : Int, (wrap64 ((((rd_T72 l0 0).f1).length : Int) - 1)) = j_ := ⟨_, rfl⟩
                      replace H : (if 0 ≤ (ji36) then (if (ji36) < (((rd_T72 l0 0).f1).length : Int) then (some ((rd_T38 ((rd_T72 l0 0).f1) (ji36)).f2, (rd_T38 ((rd_T72 l0 0).f1) (ji36)).f2)) else (none)) else (none)) = some (r1, r2) := by first | (rw [hji36] at H; exact H) | (simp only [hji36] at H ⊢; exact H)
                      have hji36w : (IntKind.i64.wrap ((((rd_T72 l0 0).f1).length : Int) - 1)) = ji36 := (i64_w _).trans hji36
                      by_cases c37 : 0 ≤ (ji36)
                      · rw [if_pos c37] at H
                        have c37b0 : decide (0 ≤ (ji36)) = true := decide_eq_true c37
                        clear c37
                        by_cases c38 : (ji36) < (((rd_T72 l0 0).f1).length : Int)
                        · rw [if_pos c38] at H
                          have c38b0 : decide ((ji36) < (((rd_T72 l0 0).f1).length : Int)) = true := decide_eq_true c38
                          clear c38
                          simp only [Option.some.injEq, Prod.mk.injEq] at H
                          obtain ⟨rfl, rfl⟩ := H
                          have p138 : 0 ≤ (0 : Int) := (by omega)
                          have q138 : 0 < (l0.length : Int) := of_decide_eq_true (by first | (with_reducible assumption) | assumption)
                          obtain ⟨ad138, A138_0, c138_0, A138_1, c138_1, A138_2, c138_2, e138, hx138_0, hx138_1, hx138_2, hl138_0, hi138_0, hl138_1, hi138_1, hl138_2, hi138_2⟩ := at_T72 HR0.out 0 p138 q138
                          obtain rfl : ad135 = ad138 := (by injection e138)
                          have qi138 : (0 < l0.length) = True := eq_true (by omega)
                          (try rw [show ((0 : Int)).toNat = 0 from rfl] at hx138_0)
                          (try rw [show 0 * 3 = 0 from rfl] at hx138_0)
                          (try rw [Addr.add_zero'] at hx138_0)
                          (try rw [show ((0 : Int)).toNat = 0 from rfl] at hx138_1)
                          (try rw [show 0 * 3 = 0 from rfl] at hx138_1)
                          (try rw [Addr.add_zero'] at hx138_1)
                          (try rw [show ((0 : Int)).toNat = 0 from rfl] at hx138_2)
                          (try rw [show 0 * 3 = 0 from rfl] at hx138_2)
                          (try rw [Addr.add_zero'] at hx138_2)
                          replace hx138_0 := (HB.out.cell (World.block_lt_of_cell? w _ hx138_0)).trans hx138_0
                          replace hx138_1 := (HB.out.cell (World.block_lt_of_cell? w _ hx138_1)).trans hx138_1
                          replace hx138_2 := (HB.out.cell (World.block_lt_of_cell? w _ hx138_2)).trans hx138_2
                          have HR138_0 := Aside0.mk hi138_0
                          have HC138_0 := Aside0.mk hl138_0
                          clear hi138_0 hl138_0
                          have HR138_1 := Aside0.mk hi138_1
                          have HC138_1 := Aside0.mk hl138_1
                          clear hi138_1 hl138_1
                          have HR138_2 := Aside0.mk hi138_2
                          have HC138_2 := Aside0.mk hl138_2
                          clear hi138_2 hl138_2
                          replace p138 := eq_true p138
                          replace q138 := eq_true q138
                          have p139 : 0 ≤ (a1 : Int) := of_decide_eq_true (by first | (with_reducible assumption) | assumption)
                          have q139 : a1 < (((rd_T72 l0 0).f2.f0).length : Int) := of_decide_eq_true (by first | (with_reducible assumption) | assumption)
                          obtain ⟨ad139, A139_3, c139_3, e139, hx139_0, hx139_1, hx139_2, hx139_3, hl139_3, hi139_3⟩ := at_T44 HR138_2.out a1 p139 q139
                          cases e139
                          replace hx139_0 := (HB.out.cell (World.block_lt_of_cell? w _ hx139_0)).trans hx139_0
                          replace hx139_1 := (HB.out.cell (World.block_lt_of_cell? w _ hx139_1)).trans hx139_1
                          replace hx139_2 := (HB.out.cell (World.block_lt_of_cell? w _ hx139_2)).trans hx139_2
                          replace hx139_3 := (HB.out.cell (World.block_lt_of_cell? w _ hx139_3)).trans hx139_3
                          have HR139_3 := Aside0.mk hi139_3
                          have HC139_3 := Aside0.mk hl139_3
                          clear hi139_3 hl139_3
                          replace p139 := eq_true p139
                          replace q139 := eq_true q139
                          try go_wp2_with (first | ((with_reducible refine gate_dst (N := 5) rfl ?_); (try (refine gate_guard (by rfl) ?_; dsimp only)); refine box_event ?hg (N := 5) ?hd (cs := #[.int .i64 0, .int .i64 0, .int .i64 0, .slice none 0 0]) (t := 44) ?hr ?_; (case hd => rfl); (case hg => rfl); (case hr => first | (go_simp; done) | (go_simp; rfl)); intro gb140 hg w39 hbox hb; have n0_ := Aside0.mk (blk_below (g := gb136) (o := .cells #[.int .i64 0, .int .i64 0] 40 (0, 0)) (by (with_reducible repeat (first | refine blk_drewN ?_ _ | refine blk_drew ?_ | refine blk_alloc ?_ _)); exact BK136.out) hb); have n1_ := Aside0.mk (below_step (by repeat (first | (with_reducible first | exact HB.out | apply below_alloc | apply pw_below_drewN | apply below_drew1 | refine below_set ?_ GE136.out) | exact HB.out)) hb); have n2_ := Aside0.mk (hbox); have n3_ := Aside0.mk ((by rw [hg]; exact (below_size (by repeat (first | (with_reducible first | exact HB.out | apply below_alloc | apply pw_below_drewN | apply below_drew1 | refine below_set ?_ GE136.out) | exact HB.out))) : w.heap.size ≤ gb140)); have n4_ := n3_; have n5_ := Aside0.mk ((by rw [hg]; exact Nat.ne_of_lt (blk_lt (g := gb136) (o := .cells #[.int .i64 0, .int .i64 0] 40 (0, 0)) (by (with_reducible repeat (first | refine blk_drewN ?_ _ | refine blk_drew ?_ | refine blk_alloc ?_ _)); exact BK136.out)) : gb136 ≠ gb140)); have n6_ := Aside0.mk ((by rw [hg]; exact Nat.ne_of_gt (blk_lt (g := gb136) (o := .cells #[.int .i64 0, .int .i64 0] 40 (0, 0)) (by (with_reducible repeat (first | refine blk_drewN ?_ _ | refine blk_drew ?_ | refine blk_alloc ?_ _)); exact BK136.out)) : gb140 ≠ gb136)); clear BK136; clear HB; have BK136 := n0_; have HB := n1_; have BK140 := n2_; have GW140 := n3_; have GE140 := n4_; have NB136_140 := n5_; have NB140_136 := n6_; clear n0_ n1_ n2_ n3_ n4_ n5_ n6_; clear hb hbox hg; have hnb40 := NB140_136.out; have hnc40 := NB136_140.out; have hcz41_0 : w39.cell? ⟨gb140, 0, none⟩ = some (.int .i64 0) := (blk_cell BK140.out 0).trans rfl; have hcz41_1 : w39.cell? ⟨gb140, 1, none⟩ = some (.int .i64 0) := (blk_cell BK140.out 1).trans rfl; have hcz41_2 : w39.cell? ⟨gb140, 2, none⟩ = some (.int .i64 0) := (blk_cell BK140.out 2).trans rfl; have hcz41_3 : w39.cell? ⟨gb140, 3, none⟩ = some (.slice none 0 0) := (blk_cell BK140.out 3).trans rfl; have hfz41_0 := blk_frozen BK140.out 0; have hfz41_1 := blk_frozen BK140.out 1; have hfz41_2 := blk_frozen BK140.out 2; have hfz41_3 := blk_frozen BK140.out 3))
                          have n0_ : Aside0 (((((w39.setCell ⟨gb140, 0, none⟩ (.int .i64 ((rd_T44 ((rd_T72 l0 0).f2.f0) a1).f0))).setCell ⟨gb140, 1, none⟩ (.int .i64 ((rd_T44 ((rd_T72 l0 0).f2.f0) a1).f1))).setCell ⟨gb140, 2, none⟩ (.int .i64 ((rd_T44 ((rd_T72 l0 0).f2.f0) a1).f2))).setCell ⟨gb140, 3, none⟩ (.slice A139_3 ((rd_T44 ((rd_T72 l0 0).f2.f0) a1).f3).length c139_3)).heap[gb136]? = some (.cells #[.int .i64 0, .int .i64 0] 40 (0, 0))) := ⟨by (with_reducible repeat (first | refine blk_drewN ?_ _ | refine blk_drew ?_ | refine blk_alloc ?_ _)); refine blk_far ?_ NB136_140.out _; (with_reducible repeat (first | refine blk_drewN ?_ _ | refine blk_drew ?_ | refine blk_alloc ?_ _)); refine blk_far ?_ NB136_140.out _; (with_reducible repeat (first | refine blk_drewN ?_ _ | refine blk_drew ?_ | refine blk_alloc ?_ _)); refine blk_far ?_ NB136_140.out _; (with_reducible repeat (first | refine blk_drewN ?_ _ | refine blk_drew ?_ | refine blk_alloc ?_ _)); refine blk_far ?_ NB136_140.out _; (with_reducible repeat (first | refine blk_drewN ?_ _ | refine blk_drew ?_ | refine blk_alloc ?_ _)); exact BK136.out⟩
                          have n1_ : Aside0 (((((w39.setCell ⟨gb140, 0, none⟩ (.int .i64 ((rd_T44 ((rd_T72 l0 0).f2.f0) a1).f0))).setCell ⟨gb140, 1, none⟩ (.int .i64 ((rd_T44 ((rd_T72 l0 0).f2.f0) a1).f1))).setCell ⟨gb140, 2, none⟩ (.int .i64 ((rd_T44 ((rd_T72 l0 0).f2.f0) a1).f2))).setCell ⟨gb140, 3, none⟩ (.slice A139_3 ((rd_T44 ((rd_T72 l0 0).f2.f0) a1).f3).length c139_3)).heap[gb140]? = some (.cells #[.int .i64 ((rd_T44 ((rd_T72 l0 0).f2.f0) a1).f0), .int .i64 ((rd_T44 ((rd_T72 l0 0).f2.f0) a1).f1), .int .i64 ((rd_T44 ((rd_T72 l0 0).f2.f0) a1).f2), .slice A139_3 ((rd_T44 ((rd_T72 l0 0).f2.f0) a1).f3).length c139_3] 44 (0, 0))) := ⟨by (with_reducible repeat (first | refine blk_drewN ?_ _ | refine blk_drew ?_ | refine blk_alloc ?_ _)); refine blk_put (cs := #[.int .i64 ((rd_T44 ((rd_T72 l0 0).f2.f0) a1).f0), .int .i64 ((rd_T44 ((rd_T72 l0 0).f2.f0) a1).f1), .int .i64 ((rd_T44 ((rd_T72 l0 0).f2.f0) a1).f2), .slice none 0 0]) ?_ 3 _ rfl; (with_reducible repeat (first | refine blk_drewN ?_ _ | refine blk_drew ?_ | refine blk_alloc ?_ _)); refine blk_put (cs := #[.int .i64 ((rd_T44 ((rd_T72 l0 0).f2.f0) a1).f0), .int .i64 ((rd_T44 ((rd_T72 l0 0).f2.f0) a1).f1), .int .i64 0, .slice none 0 0]) ?_ 2 _ rfl; (with_reducible repeat (first | refine blk_drewN ?_ _ | refine blk_drew ?_ | refine blk_alloc ?_ _)); refine blk_put (cs := #[.int .i64 ((rd_T44 ((rd_T72 l0 0).f2.f0) a1).f0), .int .i64 0, .int .i64 0, .slice none 0 0]) ?_ 1 _ rfl; (with_reducible repeat (first | refine blk_drewN ?_ _ | refine blk_drew ?_ | refine blk_alloc ?_ _)); refine blk_put (cs := #[.int .i64 0, .int .i64 0, .int .i64 0, .slice none 0 0]) ?_ 0 _ rfl; (with_reducible repeat (first | refine blk_drewN ?_ _ | refine blk_drew ?_ | refine blk_alloc ?_ _)); exact BK140.out⟩
                          have n2_ : Aside0 (Below w.heap.size w ((((w39.setCell ⟨gb140, 0, none⟩ (.int .i64 ((rd_T44 ((rd_T72 l0 0).f2.f0) a1).f0))).setCell ⟨gb140, 1, none⟩ (.int .i64 ((rd_T44 ((rd_T72 l0 0).f2.f0) a1).f1))).setCell ⟨gb140, 2, none⟩ (.int .i64 ((rd_T44 ((rd_T72 l0 0).f2.f0) a1).f2))).setCell ⟨gb140, 3, none⟩ (.slice A139_3 ((rd_T44 ((rd_T72 l0 0).f2.f0) a1).f3).length c139_3))) := ⟨by repeat (first | (with_reducible first | exact HB.out | apply below_alloc | apply pw_below_drewN | apply below_drew1 | refine below_set ?_ GE136.out | refine below_set ?_ GE140.out) | exact HB.out)⟩
                          (try clear BK136)
                          (try clear BK140)
                          (try clear HB)
                          generalize ((((w39.setCell ⟨gb140, 0, none⟩ (.int .i64 ((rd_T44 ((rd_T72 l0 0).f2.f0) a1).f0))).setCell ⟨gb140, 1, none⟩ (.int .i64 ((rd_T44 ((rd_T72 l0 0).f2.f0) a1).f1))).setCell ⟨gb140, 2, none⟩ (.int .i64 ((rd_T44 ((rd_T72 l0 0).f2.f0) a1).f2))).setCell ⟨gb140, 3, none⟩ (.slice A139_3 ((rd_T44 ((rd_T72 l0 0).f2.f0) a1).f3).length c139_3)) = w42 at n0_ n1_ n2_ ⊢
                          have BK136 := n0_
                          have BK140 := n1_
                          have HB := n2_
                          clear n0_ n1_ n2_
                          have n0_ := Aside0.mk (blk_drew BK136.out)
                          have n1_ := Aside0.mk (blk_drew BK140.out)
                          have n2_ := Aside0.mk (below_drew1 HB.out)
                          clear BK136
                          clear BK140
                          clear HB
                          have BK136 := n0_
                          have BK140 := n1_
                          have HB := n2_
                          clear n0_ n1_ n2_
                          have p145 : 0 ≤ (0 : Int) := (by omega)
                          have q145 : 0 < (l0.length : Int) := of_decide_eq_true (by first | (with_reducible assumption) | assumption)
                          obtain ⟨ad145, A145_0, c145_0, A145_1, c145_1, A145_2, c145_2, e145, hx145_0, hx145_1, hx145_2, hl145_0, hi145_0, hl145_1, hi145_1, hl145_2, hi145_2⟩ := at_T72 HR0.out 0 p145 q145
                          have hw145_2 := hx145_2
                          (try rw [show ((0 : Int)).toNat = 0 from rfl] at hw145_2)
                          (try rw [show 0 * 3 = 0 from rfl] at hw145_2)
                          (try rw [Addr.add_zero'] at hw145_2)
                          have hw145_1 := hx145_1
                          (try rw [show ((0 : Int)).toNat = 0 from rfl] at hw145_1)
                          (try rw [show 0 * 3 = 0 from rfl] at hw145_1)
                          (try rw [Addr.add_zero'] at hw145_1)
                          have hw145_0 := hx145_0
                          (try rw [show ((0 : Int)).toNat = 0 from rfl] at hw145_0)
                          (try rw [show 0 * 3 = 0 from rfl] at hw145_0)
                          (try rw [Addr.add_zero'] at hw145_0)
                          obtain rfl : ad135 = ad145 := (by injection e145)
                          have qi145 : (0 < l0.length) = True := eq_true (by omega)
                          (try rw [show ((0 : Int)).toNat = 0 from rfl] at hx145_0)
                          (try rw [show 0 * 3 = 0 from rfl] at hx145_0)
                          (try rw [Addr.add_zero'] at hx145_0)
                          (try rw [show ((0 : Int)).toNat = 0 from rfl] at hx145_1)
                          (try rw [show 0 * 3 = 0 from rfl] at hx145_1)
                          (try rw [Addr.add_zero'] at hx145_1)
                          (try rw [show ((0 : Int)).toNat = 0 from rfl] at hx145_2)
                          (try rw [show 0 * 3 = 0 from rfl] at hx145_2)
                          (try rw [Addr.add_zero'] at hx145_2)
                          replace hx145_0 := (HB.out.cell (World.block_lt_of_cell? w _ hx145_0)).trans hx145_0
                          replace hx145_1 := (HB.out.cell (World.block_lt_of_cell? w _ hx145_1)).trans hx145_1
                          replace hx145_2 := (HB.out.cell (World.block_lt_of_cell? w _ hx145_2)).trans hx145_2
                          have HR145_0 := Aside0.mk hi145_0
                          have HC145_0 := Aside0.mk hl145_0
                          clear hi145_0 hl145_0
                          have HR145_1 := Aside0.mk hi145_1
                          have HC145_1 := Aside0.mk hl145_1
                          clear hi145_1 hl145_1
                          have HR145_2 := Aside0.mk hi145_2
                          have HC145_2 := Aside0.mk hl145_2
                          clear hi145_2 hl145_2
                          replace p145 := eq_true p145
                          replace q145 := eq_true q145
                          refine start_ (n := 9) (S := fun w' => w'.cell? ⟨gb140, 0, none⟩ = some (.int .i64 ((rd_T44 ((rd_T72 l0 0).f2.f0) a1).f0)) ∧ w'.cell? ⟨gb140, 1, none⟩ = some (.int .i64 ((rd_T44 ((rd_T72 l0 0).f2.f0) a1).f1)) ∧ w'.cell? ⟨gb140, 2, none⟩ = some (.int .i64 ((rd_T44 ((rd_T72 l0 0).f2.f0) a1).f2)) ∧ w'.cell? ⟨gb140, 3, none⟩ = some (.slice A139_3 ((rd_T44 ((rd_T72 l0 0).f2.f0) a1).f3).length c139_3) ∧ w'.cell? ad135 = some (.slice A145_0 ((rd_T72 l0 0).f0).length c145_0) ∧ w'.cell? ⟨ad135.block, ad135.off + 1, none⟩ = some (.slice A145_1 ((rd_T72 l0 0).f1).length c145_1) ∧ w'.cell? ⟨ad135.block, ad135.off + 2, none⟩ = some (.slice A145_2 ((rd_T72 l0 0).f2.f0).length c145_2)) (ds := []) #[false, false, false, false, false, false, false, false, false] (by kernel_rfl) rfl rfl ⟨(blk_cell BK140.out 0).trans rfl, (blk_cell BK140.out 1).trans rfl, (blk_cell BK140.out 2).trans rfl, (blk_cell BK140.out 3).trans rfl, ((HB.out.cell (World.block_lt_of_cell? w _ hw145_0)).trans hw145_0), ((HB.out.cell (World.block_lt_of_cell? w _ hw145_1)).trans hw145_1), ((HB.out.cell (World.block_lt_of_cell? w _ hw145_2)).trans hw145_2)⟩ (fun hHeld => ?_); refine with_tabW view_File_Span.tab6 view_File_Span.bits6 (fun HT_ HW_ => ?_)
                          generalize w42.drew = w43 at BK136 BK140 HB HR145_0 HR145_1 HR145_2 hx145_0 hx145_1 hx145_2 hHeld ⊢
                          refine pure_ (i := 0) (N := some 59) (v := ?_) (a' := ?_) #[true, false, false, false, false, false, false, false, false] rfl rfl (any_of HT_.out (by kernel_rfl)) (fun _ _ _ h => h) (Or.inl ⟨by rfl, ?_⟩) ?_ ?_; rotate_left; { intro w'; go_simp; with_reducible rfl }; rotate_left; { simp only [Act.put, List.setIfInBounds_toArray, List.set_cons_zero, List.set_cons_succ, i64_w, i32_w]; rfl }
                          refine pure_ (i := 2) (N := some 61) (v := ?_) (a' := ?_) #[true, false, true, false, false, false, false, false, false] rfl rfl (any_of HT_.out (by kernel_rfl)) (fun _ _ _ h => h) (Or.inl ⟨by rfl, ?_⟩) ?_ ?_; rotate_left; { intro w'; go_simp; with_reducible rfl }; rotate_left; { simp only [Act.put, List.setIfInBounds_toArray, List.set_cons_zero, List.set_cons_succ, i64_w, i32_w]; rfl }
                          refine pure_ (i := 3) (N := some 62) (v := ?_) (a' := ?_) #[true, false, true, true, false, false, false, false, false] rfl rfl (any_of HT_.out (by kernel_rfl)) (fun _ _ _ h => h) (Or.inl ⟨by rfl, ?_⟩) ?_ ?_; rotate_left; { intro w'; go_simp; with_reducible rfl }; rotate_left; { simp only [Act.put, List.setIfInBounds_toArray, List.set_cons_zero, List.set_cons_succ, i64_w, i32_w]; rfl }
                          refine pure_ (i := 4) (N := some 63) (v := ?_) (a' := ?_) #[true, false, true, true, true, false, false, false, false] rfl rfl (any_of HT_.out (by kernel_rfl)) (fun _ _ _ h => h) (Or.inl ⟨by rfl, ?_⟩) ?_ ?_; rotate_left; { intro w'; go_simp; with_reducible rfl }; rotate_left; { simp only [Act.put, List.setIfInBounds_toArray, List.set_cons_zero, List.set_cons_succ, i64_w, i32_w]; rfl }
                          refine take_ (i := 1) (N := some 60) (v := ?_) (a' := ?_) #[true, true, true, true, true, false, false, false, false] rfl rfl (take_ofW HT_.out HW_.out (by kernel_rfl)) (fun _ _ _ h => h) (Or.inl ⟨by rfl, ?_⟩) hHeld ?_ ?_; rotate_left; { rintro w' ⟨s0, s1, s2, s3, s4, s5, s6⟩; go_simp; with_reducible rfl }; rotate_left; { simp only [Act.put, List.setIfInBounds_toArray, List.set_cons_zero, List.set_cons_succ, i64_w, i32_w]; rfl }
                          refine take_ (i := 5) (N := some 64) (v := ?_) (a' := ?_) #[true, true, true, true, true, true, false, false, false] rfl rfl (take_ofW HT_.out HW_.out (by kernel_rfl)) (fun _ _ _ h => h) (Or.inl ⟨by rfl, ?_⟩) hHeld ?_ ?_; rotate_left; { rintro w' ⟨s0, s1, s2, s3, s4, s5, s6⟩; go_simp; with_reducible rfl }; rotate_left; { simp only [Act.put, List.setIfInBounds_toArray, List.set_cons_zero, List.set_cons_succ, i64_w, i32_w]; rfl }
                          refine pure_ (i := 6) (N := some 65) (v := ?_) (a' := ?_) #[true, true, true, true, true, true, true, false, false] rfl rfl (any_of HT_.out (by kernel_rfl)) (fun _ _ _ h => h) (Or.inl ⟨by rfl, ?_⟩) ?_ ?_; rotate_left; { intro w'; go_simp; with_reducible rfl }; rotate_left; { simp only [Act.put, List.setIfInBounds_toArray, List.set_cons_zero, List.set_cons_succ, i64_w, i32_w]; rfl }
                          refine pure_ (i := 7) (N := some 66) (v := ?_) (a' := ?_) #[true, true, true, true, true, true, true, true, false] rfl rfl (any_of HT_.out (by kernel_rfl)) (fun _ _ _ h => h) (Or.inl ⟨by rfl, ?_⟩) ?_ ?_; rotate_left; { intro w'; go_simp; with_reducible rfl }; rotate_left; { simp only [Act.put, List.setIfInBounds_toArray, List.set_cons_zero, List.set_cons_succ, i64_w, i32_w]; rfl }
                          refine pure_ (i := 8) (N := some 58) (v := ?_) (a' := ?_) #[true, true, true, true, true, true, true, true, true] rfl rfl (any_of HT_.out (by kernel_rfl)) (fun _ _ _ h => h) (Or.inl ⟨by rfl, ?_⟩) ?_ ?_; rotate_left; { intro w'; go_simp; with_reducible rfl }; rotate_left; { simp only [Act.put, List.setIfInBounds_toArray, List.set_cons_zero, List.set_cons_succ, i64_w, i32_w]; rfl }
                          refine done_ (done_of HT_.out (by kernel_rfl)) ?_
                          have p150 : 0 ≤ (0 : Int) := (by omega)
                          have q150 : 0 < (l0.length : Int) := of_decide_eq_true (by first | (with_reducible assumption) | assumption)
                          obtain ⟨ad150, A150_0, c150_0, A150_1, c150_1, A150_2, c150_2, e150, hx150_0, hx150_1, hx150_2, hl150_0, hi150_0, hl150_1, hi150_1, hl150_2, hi150_2⟩ := at_T72 HR0.out 0 p150 q150
                          obtain rfl : ad135 = ad150 := (by injection e150)
                          have qi150 : (0 < l0.length) = True := eq_true (by omega)
                          (try rw [show ((0 : Int)).toNat = 0 from rfl] at hx150_0)
                          (try rw [show 0 * 3 = 0 from rfl] at hx150_0)
                          (try rw [Addr.add_zero'] at hx150_0)
                          (try rw [show ((0 : Int)).toNat = 0 from rfl] at hx150_1)
                          (try rw [show 0 * 3 = 0 from rfl] at hx150_1)
                          (try rw [Addr.add_zero'] at hx150_1)
                          (try rw [show ((0 : Int)).toNat = 0 from rfl] at hx150_2)
                          (try rw [show 0 * 3 = 0 from rfl] at hx150_2)
                          (try rw [Addr.add_zero'] at hx150_2)
                          replace hx150_0 := (HB.out.cell (World.block_lt_of_cell? w _ hx150_0)).trans hx150_0
                          replace hx150_1 := (HB.out.cell (World.block_lt_of_cell? w _ hx150_1)).trans hx150_1
                          replace hx150_2 := (HB.out.cell (World.block_lt_of_cell? w _ hx150_2)).trans hx150_2
                          have HR150_0 := Aside0.mk hi150_0
                          have HC150_0 := Aside0.mk hl150_0
                          clear hi150_0 hl150_0
                          have HR150_1 := Aside0.mk hi150_1
                          have HC150_1 := Aside0.mk hl150_1
                          clear hi150_1 hl150_1
                          have HR150_2 := Aside0.mk hi150_2
                          have HC150_2 := Aside0.mk hl150_2
                          clear hi150_2 hl150_2
                          replace p150 := eq_true p150
                          replace q150 := eq_true q150
                          have ea_ := Option.some.inj (hx145_0.symm.trans hx150_0)
                          injection ea_ with ea_ en_ ec_
                          subst ea_
                          subst ec_
                          clear en_
                          have ea_ := Option.some.inj (hx145_1.symm.trans hx150_1)
                          injection ea_ with ea_ en_ ec_
                          subst ea_
                          subst ec_
                          clear en_
                          have ea_ := Option.some.inj (hx145_2.symm.trans hx150_2)
                          injection ea_ with ea_ en_ ec_
                          subst ea_
                          subst ec_
                          clear en_
                          try go_wp2
                          have n0_ := Aside0.mk (blk_drew BK136.out)
                          have n1_ := Aside0.mk (blk_drew BK140.out)
                          have n2_ := Aside0.mk (below_drew1 HB.out)
                          clear BK136
                          clear BK140
                          clear HB
                          have BK136 := n0_
                          have BK140 := n1_
                          have HB := n2_
                          clear n0_ n1_ n2_
                          have p151 : 0 ≤ (0 : Int) := (by omega)
                          have q151 : 0 < (l0.length : Int) := of_decide_eq_true (by first | (with_reducible assumption) | assumption)
                          obtain ⟨ad151, A151_0, c151_0, A151_1, c151_1, A151_2, c151_2, e151, hx151_0, hx151_1, hx151_2, hl151_0, hi151_0, hl151_1, hi151_1, hl151_2, hi151_2⟩ := at_T72 HR0.out 0 p151 q151
                          have hw151_2 := hx151_2
                          (try rw [show ((0 : Int)).toNat = 0 from rfl] at hw151_2)
                          (try rw [show 0 * 3 = 0 from rfl] at hw151_2)
                          (try rw [Addr.add_zero'] at hw151_2)
                          have hw151_1 := hx151_1
                          (try rw [show ((0 : Int)).toNat = 0 from rfl] at hw151_1)
                          (try rw [show 0 * 3 = 0 from rfl] at hw151_1)
                          (try rw [Addr.add_zero'] at hw151_1)
                          have hw151_0 := hx151_0
                          (try rw [show ((0 : Int)).toNat = 0 from rfl] at hw151_0)
                          (try rw [show 0 * 3 = 0 from rfl] at hw151_0)
                          (try rw [Addr.add_zero'] at hw151_0)
                          obtain rfl : ad135 = ad151 := (by injection e151)
                          have qi151 : (0 < l0.length) = True := eq_true (by omega)
                          (try rw [show ((0 : Int)).toNat = 0 from rfl] at hx151_0)
                          (try rw [show 0 * 3 = 0 from rfl] at hx151_0)
                          (try rw [Addr.add_zero'] at hx151_0)
                          (try rw [show ((0 : Int)).toNat = 0 from rfl] at hx151_1)
                          (try rw [show 0 * 3 = 0 from rfl] at hx151_1)
                          (try rw [Addr.add_zero'] at hx151_1)
                          (try rw [show ((0 : Int)).toNat = 0 from rfl] at hx151_2)
                          (try rw [show 0 * 3 = 0 from rfl] at hx151_2)
                          (try rw [Addr.add_zero'] at hx151_2)
                          replace hx151_0 := (HB.out.cell (World.block_lt_of_cell? w _ hx151_0)).trans hx151_0
                          replace hx151_1 := (HB.out.cell (World.block_lt_of_cell? w _ hx151_1)).trans hx151_1
                          replace hx151_2 := (HB.out.cell (World.block_lt_of_cell? w _ hx151_2)).trans hx151_2
                          have HR151_0 := Aside0.mk hi151_0
                          have HC151_0 := Aside0.mk hl151_0
                          clear hi151_0 hl151_0
                          have HR151_1 := Aside0.mk hi151_1
                          have HC151_1 := Aside0.mk hl151_1
                          clear hi151_1 hl151_1
                          have HR151_2 := Aside0.mk hi151_2
                          have HC151_2 := Aside0.mk hl151_2
                          clear hi151_2 hl151_2
                          replace p151 := eq_true p151
                          replace q151 := eq_true q151
                          have p152 : 0 ≤ (0 : Int) := (by omega)
                          have q152 : 0 < (l0.length : Int) := of_decide_eq_true (by first | (with_reducible assumption) | assumption)
                          obtain ⟨ad152, A152_0, c152_0, A152_1, c152_1, A152_2, c152_2, e152, hx152_0, hx152_1, hx152_2, hl152_0, hi152_0, hl152_1, hi152_1, hl152_2, hi152_2⟩ := at_T72 HR0.out 0 p152 q152
                          have hw152_2 := hx152_2
                          (try rw [show ((0 : Int)).toNat = 0 from rfl] at hw152_2)
                          (try rw [show 0 * 3 = 0 from rfl] at hw152_2)
                          (try rw [Addr.add_zero'] at hw152_2)
                          have hw152_1 := hx152_1
                          (try rw [show ((0 : Int)).toNat = 0 from rfl] at hw152_1)
                          (try rw [show 0 * 3 = 0 from rfl] at hw152_1)
                          (try rw [Addr.add_zero'] at hw152_1)
                          have hw152_0 := hx152_0
                          (try rw [show ((0 : Int)).toNat = 0 from rfl] at hw152_0)
                          (try rw [show 0 * 3 = 0 from rfl] at hw152_0)
                          (try rw [Addr.add_zero'] at hw152_0)
                          obtain rfl : ad135 = ad152 := (by injection e152)
                          have qi152 : (0 < l0.length) = True := eq_true (by omega)
                          (try rw [show ((0 : Int)).toNat = 0 from rfl] at hx152_0)
                          (try rw [show 0 * 3 = 0 from rfl] at hx152_0)
                          (try rw [Addr.add_zero'] at hx152_0)
                          (try rw [show ((0 : Int)).toNat = 0 from rfl] at hx152_1)
                          (try rw [show 0 * 3 = 0 from rfl] at hx152_1)
                          (try rw [Addr.add_zero'] at hx152_1)
                          (try rw [show ((0 : Int)).toNat = 0 from rfl] at hx152_2)
                          (try rw [show 0 * 3 = 0 from rfl] at hx152_2)
                          (try rw [Addr.add_zero'] at hx152_2)
                          replace hx152_0 := (HB.out.cell (World.block_lt_of_cell? w _ hx152_0)).trans hx152_0
                          replace hx152_1 := (HB.out.cell (World.block_lt_of_cell? w _ hx152_1)).trans hx152_1
                          replace hx152_2 := (HB.out.cell (World.block_lt_of_cell? w _ hx152_2)).trans hx152_2
                          have HR152_0 := Aside0.mk hi152_0
                          have HC152_0 := Aside0.mk hl152_0
                          clear hi152_0 hl152_0
                          have HR152_1 := Aside0.mk hi152_1
                          have HC152_1 := Aside0.mk hl152_1
                          clear hi152_1 hl152_1
                          have HR152_2 := Aside0.mk hi152_2
                          have HC152_2 := Aside0.mk hl152_2
                          clear hi152_2 hl152_2
                          replace p152 := eq_true p152
                          replace q152 := eq_true q152
                          have ea_ := Option.some.inj (hx151_0.symm.trans hx152_0)
                          injection ea_ with ea_ en_ ec_
                          subst ea_
                          subst ec_
                          clear en_
                          have ea_ := Option.some.inj (hx151_1.symm.trans hx152_1)
                          injection ea_ with ea_ en_ ec_
                          subst ea_
                          subst ec_
                          clear en_
                          have ea_ := Option.some.inj (hx151_2.symm.trans hx152_2)
                          injection ea_ with ea_ en_ ec_
                          subst ea_
                          subst ec_
                          clear en_
                          have p153 : 0 ≤ ((ji36) : Int) := of_decide_eq_true (by first | (with_reducible assumption) | assumption)
                          have q153 : (ji36) < (((rd_T72 l0 0).f1).length : Int) := of_decide_eq_true (by first | (with_reducible assumption) | assumption)
                          obtain ⟨ad153, e153, hx153_0, hx153_1, hx153_2, hx153_3, hx153_4⟩ := at_T38 HR151_1.out (ji36) p153 q153
                          have hw153_4 := hx153_4
                          have hw153_3 := hx153_3
                          have hw153_2 := hx153_2
                          have hw153_1 := hx153_1
                          have hw153_0 := hx153_0
                          cases e153
                          replace hx153_0 := (HB.out.cell (World.block_lt_of_cell? w _ hx153_0)).trans hx153_0
                          replace hx153_1 := (HB.out.cell (World.block_lt_of_cell? w _ hx153_1)).trans hx153_1
                          replace hx153_2 := (HB.out.cell (World.block_lt_of_cell? w _ hx153_2)).trans hx153_2
                          replace hx153_3 := (HB.out.cell (World.block_lt_of_cell? w _ hx153_3)).trans hx153_3
                          replace hx153_4 := (HB.out.cell (World.block_lt_of_cell? w _ hx153_4)).trans hx153_4
                          replace p153 := eq_true p153
                          replace q153 := eq_true q153
                          refine start_ (n := 14) (S := fun w' => w'.cell? ad135 = some (.slice A151_0 ((rd_T72 l0 0).f0).length c151_0) ∧ w'.cell? ⟨ad135.block, ad135.off + 1, none⟩ = some (.slice (some ad153) ((rd_T72 l0 0).f1).length c151_1) ∧ w'.cell? ⟨ad135.block, ad135.off + 2, none⟩ = some (.slice A151_2 ((rd_T72 l0 0).f2.f0).length c151_2) ∧ w'.cell? ad135 = some (.slice A151_0 ((rd_T72 l0 0).f0).length c151_0) ∧ w'.cell? ⟨ad135.block, ad135.off + 1, none⟩ = some (.slice (some ad153) ((rd_T72 l0 0).f1).length c151_1) ∧ w'.cell? ⟨ad135.block, ad135.off + 2, none⟩ = some (.slice A151_2 ((rd_T72 l0 0).f2.f0).length c151_2) ∧ w'.cell? (ad153.add (((ji36)).toNat * 5)) = some (.int .i64 ((rd_T38 ((rd_T72 l0 0).f1) (ji36)).f0)) ∧ w'.cell? ⟨(ad153.add (((ji36)).toNat * 5)).block, (ad153.add (((ji36)).toNat * 5)).off + 1, none⟩ = some (.int .i64 ((rd_T38 ((rd_T72 l0 0).f1) (ji36)).f1)) ∧ w'.cell? ⟨(ad153.add (((ji36)).toNat * 5)).block, (ad153.add (((ji36)).toNat * 5)).off + 2, none⟩ = some (.int .i64 ((rd_T38 ((rd_T72 l0 0).f1) (ji36)).f2)) ∧ w'.cell? ⟨(ad153.add (((ji36)).toNat * 5)).block, (ad153.add (((ji36)).toNat * 5)).off + 3, none⟩ = some (.bool ((rd_T38 ((rd_T72 l0 0).f1) (ji36)).f3)) ∧ w'.cell? ⟨(ad153.add (((ji36)).toNat * 5)).block, (ad153.add (((ji36)).toNat * 5)).off + 4, none⟩ = some (.int .i64 ((rd_T38 ((rd_T72 l0 0).f1) (ji36)).f4))) (ds := []) #[false, false, false, false, false, false, false, false, false, false, false, false, false, false] (by kernel_rfl) rfl rfl ⟨((HB.out.cell (World.block_lt_of_cell? w _ hw151_0)).trans hw151_0), ((HB.out.cell (World.block_lt_of_cell? w _ hw151_1)).trans hw151_1), ((HB.out.cell (World.block_lt_of_cell? w _ hw151_2)).trans hw151_2), ((HB.out.cell (World.block_lt_of_cell? w _ hw152_0)).trans hw152_0), ((HB.out.cell (World.block_lt_of_cell? w _ hw152_1)).trans hw152_1), ((HB.out.cell (World.block_lt_of_cell? w _ hw152_2)).trans hw152_2), ((HB.out.cell (World.block_lt_of_cell? w _ hw153_0)).trans hw153_0), ((HB.out.cell (World.block_lt_of_cell? w _ hw153_1)).trans hw153_1), ((HB.out.cell (World.block_lt_of_cell? w _ hw153_2)).trans hw153_2), ((HB.out.cell (World.block_lt_of_cell? w _ hw153_3)).trans hw153_3), ((HB.out.cell (World.block_lt_of_cell? w _ hw153_4)).trans hw153_4)⟩ (fun hHeld => ?_); refine with_tabW view_File_Span.tab9 view_File_Span.bits9 (fun HT_ HW_ => ?_)
                          generalize w43.drew = w44 at BK136 BK140 HB HR151_0 HR151_1 HR151_2 HR152_0 HR152_1 HR152_2 hx151_0 hx151_1 hx151_2 hx152_0 hx152_1 hx152_2 hx153_0 hx153_1 hx153_2 hx153_3 hx153_4 hHeld ⊢
                          refine pure_ (i := 0) (N := some 93) (v := ?_) (a' := ?_) (bl_ 14 1) rfl rfl (any_of HT_.out (by kernel_rfl)) (fun _ _ _ h => h) (Or.inl ⟨by rfl, ?_⟩) ?_ ?_; rotate_left; { intro w'; go_simp; with_reducible rfl }; rotate_left; { simp only [Act.put, List.setIfInBounds_toArray, List.set_cons_zero, List.set_cons_succ, i64_w, i32_w]; rfl }
                          refine pure_ (i := 1) (N := some 94) (v := ?_) (a' := ?_) (bl_ 14 3) rfl rfl (any_of HT_.out (by kernel_rfl)) (fun _ _ _ h => h) (Or.inl ⟨by rfl, ?_⟩) ?_ ?_; rotate_left; { intro w'; go_simp; with_reducible rfl }; rotate_left; { simp only [Act.put, List.setIfInBounds_toArray, List.set_cons_zero, List.set_cons_succ, i64_w, i32_w]; rfl }
                          refine pure_ (i := 2) (N := some 95) (v := ?_) (a' := ?_) (bl_ 14 7) rfl rfl (any_of HT_.out (by kernel_rfl)) (fun _ _ _ h => h) (Or.inl ⟨by rfl, ?_⟩) ?_ ?_; rotate_left; { intro w'; go_simp; with_reducible rfl }; rotate_left; { simp only [Act.put, List.setIfInBounds_toArray, List.set_cons_zero, List.set_cons_succ, i64_w, i32_w]; rfl }
                          refine pure_ (i := 4) (N := some 97) (v := ?_) (a' := ?_) (bl_ 14 23) rfl rfl (any_of HT_.out (by kernel_rfl)) (fun _ _ _ h => h) (Or.inl ⟨by rfl, ?_⟩) ?_ ?_; rotate_left; { intro w'; go_simp; with_reducible rfl }; rotate_left; { simp only [Act.put, List.setIfInBounds_toArray, List.set_cons_zero, List.set_cons_succ, i64_w, i32_w]; rfl }
                          refine pure_ (i := 5) (N := some 98) (v := ?_) (a' := ?_) (bl_ 14 55) rfl rfl (any_of HT_.out (by kernel_rfl)) (fun _ _ _ h => h) (Or.inl ⟨by rfl, ?_⟩) ?_ ?_; rotate_left; { intro w'; go_simp; with_reducible rfl }; rotate_left; { simp only [Act.put, List.setIfInBounds_toArray, List.set_cons_zero, List.set_cons_succ, i64_w, i32_w]; rfl }
                          refine pure_ (i := 6) (N := some 99) (v := ?_) (a' := ?_) (bl_ 14 119) rfl rfl (any_of HT_.out (by kernel_rfl)) (fun _ _ _ h => h) (Or.inl ⟨by rfl, ?_⟩) ?_ ?_; rotate_left; { intro w'; go_simp; with_reducible rfl }; rotate_left; { simp only [Act.put, List.setIfInBounds_toArray, List.set_cons_zero, List.set_cons_succ, i64_w, i32_w]; rfl }
                          refine take_ (i := 3) (N := some 96) (v := ?_) (a' := ?_) (bl_ 14 127) rfl rfl (take_ofW HT_.out HW_.out (by kernel_rfl)) (fun _ _ _ h => h) (Or.inl ⟨by rfl, ?_⟩) hHeld ?_ ?_; rotate_left; { rintro w' ⟨s0, s1, s2, s3, s4, s5, s6, s7, s8, s9, s10⟩; go_simp; with_reducible rfl }; rotate_left; { simp only [Act.put, List.setIfInBounds_toArray, List.set_cons_zero, List.set_cons_succ, i64_w, i32_w]; rfl }
                          refine take_ (i := 7) (N := some 100) (v := ?_) (a' := ?_) (bl_ 14 255) rfl rfl (take_ofW HT_.out HW_.out (by kernel_rfl)) (fun _ _ _ h => h) (Or.inl ⟨by rfl, ?_⟩) hHeld ?_ ?_; rotate_left; { rintro w' ⟨s0, s1, s2, s3, s4, s5, s6, s7, s8, s9, s10⟩; go_simp; with_reducible rfl }; rotate_left; { simp only [Act.put, List.setIfInBounds_toArray, List.set_cons_zero, List.set_cons_succ, i64_w, i32_w]; rfl }
                          refine pure_ (i := 8) (N := some 101) (v := ?_) (a' := ?_) (bl_ 14 511) rfl rfl (any_of HT_.out (by kernel_rfl)) (fun _ _ _ h => h) (Or.inl ⟨by rfl, ?_⟩) ?_ ?_; rotate_left; { intro w'; go_simp; with_reducible rfl }; rotate_left; { simp only [Act.put, List.setIfInBounds_toArray, List.set_cons_zero, List.set_cons_succ, i64_w, i32_w]; rfl }
                          refine pure_ (i := 9) (N := some 102) (v := ?_) (a' := ?_) (bl_ 14 1023) rfl rfl (any_of HT_.out (by kernel_rfl)) (fun _ _ _ h => h) (Or.inl ⟨by rfl, ?_⟩) ?_ ?_; rotate_left; { intro w'; go_simp; with_reducible rfl }; rotate_left; { simp only [Act.put, List.setIfInBounds_toArray, List.set_cons_zero, List.set_cons_succ, i64_w, i32_w]; rfl }
                          refine pure_ (i := 10) (N := some 103) (v := ?_) (a' := ?_) (bl_ 14 2047) rfl rfl (any_of HT_.out (by kernel_rfl)) (fun _ _ _ h => h) (Or.inl ⟨by rfl, ?_⟩) ?_ ?_; rotate_left; { intro w'; go_simp; with_reducible rfl }; rotate_left; { simp only [Act.put, List.setIfInBounds_toArray, List.set_cons_zero, List.set_cons_succ, i64_w, i32_w]; rfl }
                          refine pure_ (i := 11) (N := some 104) (v := ?_) (a' := ?_) (bl_ 14 4095) rfl rfl (any_of HT_.out (by kernel_rfl)) (fun _ _ _ h => h) (Or.inl ⟨by rfl, ?_⟩) ?_ ?_; rotate_left; { intro w'; go_simp; with_reducible rfl }; rotate_left; { simp only [Act.put, List.setIfInBounds_toArray, List.set_cons_zero, List.set_cons_succ, i64_w, i32_w]; rfl }
                          refine take_ (i := 12) (N := some 105) (v := ?_) (a' := ?_) (bl_ 14 8191) rfl rfl (take_ofW HT_.out HW_.out (by kernel_rfl)) (fun _ _ _ h => h) (Or.inl ⟨by rfl, ?_⟩) hHeld ?_ ?_; rotate_left; { rintro w' ⟨s0, s1, s2, s3, s4, s5, s6, s7, s8, s9, s10⟩; go_simp; with_reducible rfl }; rotate_left; { simp only [Act.put, List.setIfInBounds_toArray, List.set_cons_zero, List.set_cons_succ, i64_w, i32_w]; rfl }
                          refine pure_ (i := 13) (N := some 6) (v := ?_) (a' := ?_) (bl_ 14 16383) rfl rfl (any_of HT_.out (by kernel_rfl)) (fun _ _ _ h => h) (Or.inl ⟨by rfl, ?_⟩) ?_ ?_; rotate_left; { intro w'; go_simp; with_reducible rfl }; rotate_left; { simp only [Act.put, List.setIfInBounds_toArray, List.set_cons_zero, List.set_cons_succ, i64_w, i32_w]; rfl }
                          refine done_ (done_of HT_.out (by kernel_rfl)) ?_
                          have hcz45_0 : w44.cell? ⟨gb136, 0, none⟩ = some (.int .i64 0) := (blk_cell BK136.out 0).trans rfl
                          have hcz45_1 : w44.cell? ⟨gb136, 1, none⟩ = some (.int .i64 0) := (blk_cell BK136.out 1).trans rfl
                          have hfz45_0 := blk_frozen BK136.out 0
                          have hfz45_1 := blk_frozen BK136.out 1
                          try go_wp2
                          refine bodyPost_ret (results_cell_row rfl _ _ gb136 40 #[.int .i64 ((rd_T38 ((rd_T72 l0 0).f1) (ji36)).f2), .int .i64 ((rd_T38 ((rd_T72 l0 0).f1) (ji36)).f2)] (0, 0) _ rfl (by (with_reducible repeat (first | refine blk_drewN ?_ _ | refine blk_drew ?_ | refine blk_alloc ?_ _)); refine blk_put (cs := #[.int .i64 ((rd_T38 ((rd_T72 l0 0).f1) (ji36)).f2), .int .i64 0]) ?_ 1 _ rfl; (with_reducible repeat (first | refine blk_drewN ?_ _ | refine blk_drew ?_ | refine blk_alloc ?_ _)); refine blk_put (cs := #[.int .i64 0, .int .i64 0]) ?_ 0 _ rfl; (with_reducible repeat (first | refine blk_drewN ?_ _ | refine blk_drew ?_ | refine blk_alloc ?_ _)); exact BK136.out) Try.underlying40 rfl (by kernel_rfl)) rfl ?_
                          exact ⟨by first | rfl | (simp [errW_none, errW_some, erT_no, erV_no, erT_at, erV_at] <;> rfl) | (simp only [← hji36]; first | rfl | (simp [errW_none, errW_some, erT_no, erV_no, erT_at, erV_at] <;> rfl)) | (simp [*, errW_none, errW_some, erT_no, erV_no, erT_at, erV_at] <;> rfl), by repeat (first | (with_reducible first | exact HB.out | apply below_alloc | apply pw_below_drewN | apply below_drew1 | refine below_set ?_ GE136.out | refine below_set ?_ GE140.out) | exact HB.out)⟩
                        · rw [if_neg c38] at H
                          exact absurd H (by simp)
                      · rw [if_neg c37] at H
                        exact absurd H (by simp)
                    · rw [if_neg c35] at H
                      have c35b0 : decide (0 < (((rd_T72 l0 0).f1).length : Int)) = false := decide_eq_false c35
                      have c35b1 : decide (0 < ((rd_T72 l0 0).f1).length) = false := decide_eq_false (by omega)
                      clear c35
                      simp only [Option.some.injEq, Prod.mk.injEq] at H
                      obtain ⟨rfl, rfl⟩ := H
                      have p138 : 0 ≤ (0 : Int) := (by omega)
                      have q138 : 0 < (l0.length : Int) := of_decide_eq_true (by first | (with_reducible assumption) | assumption)
                      obtain ⟨ad138, A138_0, c138_0, A138_1, c138_1, A138_2, c138_2, e138, hx138_0, hx138_1, hx138_2, hl138_0, hi138_0, hl138_1, hi138_1, hl138_2, hi138_2⟩ := at_T72 HR0.out 0 p138 q138
                      obtain rfl : ad135 = ad138 := (by injection e138)
                      have qi138 : (0 < l0.length) = True := eq_true (by omega)
                      (try rw [show ((0 : Int)).toNat = 0 from rfl] at hx138_0)
                      (try rw [show 0 * 3 = 0 from rfl] at hx138_0)
                      (try rw [Addr.add_zero'] at hx138_0)
                      (try rw [show ((0 : Int)).toNat = 0 from rfl] at hx138_1)
                      (try rw [show 0 * 3 = 0 from rfl] at hx138_1)
                      (try rw [Addr.add_zero'] at hx138_1)
                      (try rw [show ((0 : Int)).toNat = 0 from rfl] at hx138_2)
                      (try rw [show 0 * 3 = 0 from rfl] at hx138_2)
                      (try rw [Addr.add_zero'] at hx138_2)
                      replace hx138_0 := (HB.out.cell (World.block_lt_of_cell? w _ hx138_0)).trans hx138_0
                      replace hx138_1 := (HB.out.cell (World.block_lt_of_cell? w _ hx138_1)).trans hx138_1
                      replace hx138_2 := (HB.out.cell (World.block_lt_of_cell? w _ hx138_2)).trans hx138_2
                      have HR138_0 := Aside0.mk hi138_0
                      have HC138_0 := Aside0.mk hl138_0
                      clear hi138_0 hl138_0
                      have HR138_1 := Aside0.mk hi138_1
                      have HC138_1 := Aside0.mk hl138_1
                      clear hi138_1 hl138_1
                      have HR138_2 := Aside0.mk hi138_2
                      have HC138_2 := Aside0.mk hl138_2
                      clear hi138_2 hl138_2
                      replace p138 := eq_true p138
                      replace q138 := eq_true q138
                      have p139 : 0 ≤ (a1 : Int) := of_decide_eq_true (by first | (with_reducible assumption) | assumption)
                      have q139 : a1 < (((rd_T72 l0 0).f2.f0).length : Int) := of_decide_eq_true (by first | (with_reducible assumption) | assumption)
                      obtain ⟨ad139, A139_3, c139_3, e139, hx139_0, hx139_1, hx139_2, hx139_3, hl139_3, hi139_3⟩ := at_T44 HR138_2.out a1 p139 q139
                      cases e139
                      replace hx139_0 := (HB.out.cell (World.block_lt_of_cell? w _ hx139_0)).trans hx139_0
                      replace hx139_1 := (HB.out.cell (World.block_lt_of_cell? w _ hx139_1)).trans hx139_1
                      replace hx139_2 := (HB.out.cell (World.block_lt_of_cell? w _ hx139_2)).trans hx139_2
                      replace hx139_3 := (HB.out.cell (World.block_lt_of_cell? w _ hx139_3)).trans hx139_3
                      have HR139_3 := Aside0.mk hi139_3
                      have HC139_3 := Aside0.mk hl139_3
                      clear hi139_3 hl139_3
                      replace p139 := eq_true p139
                      replace q139 := eq_true q139
                      try go_wp2_with (first | ((with_reducible refine gate_dst (N := 5) rfl ?_); (try (refine gate_guard (by rfl) ?_; dsimp only)); refine box_event ?hg (N := 5) ?hd (cs := #[.int .i64 0, .int .i64 0, .int .i64 0, .slice none 0 0]) (t := 44) ?hr ?_; (case hd => rfl); (case hg => rfl); (case hr => first | (go_simp; done) | (go_simp; rfl)); intro gb140 hg w46 hbox hb; have n0_ := Aside0.mk (blk_below (g := gb136) (o := .cells #[.int .i64 0, .int .i64 0] 40 (0, 0)) (by (with_reducible repeat (first | refine blk_drewN ?_ _ | refine blk_drew ?_ | refine blk_alloc ?_ _)); exact BK136.out) hb); have n1_ := Aside0.mk (below_step (by repeat (first | (with_reducible first | exact HB.out | apply below_alloc | apply pw_below_drewN | apply below_drew1 | refine below_set ?_ GE136.out) | exact HB.out)) hb); have n2_ := Aside0.mk (hbox); have n3_ := Aside0.mk ((by rw [hg]; exact (below_size (by repeat (first | (with_reducible first | exact HB.out | apply below_alloc | apply pw_below_drewN | apply below_drew1 | refine below_set ?_ GE136.out) | exact HB.out))) : w.heap.size ≤ gb140)); have n4_ := n3_; have n5_ := Aside0.mk ((by rw [hg]; exact Nat.ne_of_lt (blk_lt (g := gb136) (o := .cells #[.int .i64 0, .int .i64 0] 40 (0, 0)) (by (with_reducible repeat (first | refine blk_drewN ?_ _ | refine blk_drew ?_ | refine blk_alloc ?_ _)); exact BK136.out)) : gb136 ≠ gb140)); have n6_ := Aside0.mk ((by rw [hg]; exact Nat.ne_of_gt (blk_lt (g := gb136) (o := .cells #[.int .i64 0, .int .i64 0] 40 (0, 0)) (by (with_reducible repeat (first | refine blk_drewN ?_ _ | refine blk_drew ?_ | refine blk_alloc ?_ _)); exact BK136.out)) : gb140 ≠ gb136)); clear BK136; clear HB; have BK136 := n0_; have HB := n1_; have BK140 := n2_; have GW140 := n3_; have GE140 := n4_; have NB136_140 := n5_; have NB140_136 := n6_; clear n0_ n1_ n2_ n3_ n4_ n5_ n6_; clear hb hbox hg; have hnb47 := NB140_136.out; have hnc47 := NB136_140.out; have hcz48_0 : w46.cell? ⟨gb140, 0, none⟩ = some (.int .i64 0) := (blk_cell BK140.out 0).trans rfl; have hcz48_1 : w46.cell? ⟨gb140, 1, none⟩ = some (.int .i64 0) := (blk_cell BK140.out 1).trans rfl; have hcz48_2 : w46.cell? ⟨gb140, 2, none⟩ = some (.int .i64 0) := (blk_cell BK140.out 2).trans rfl; have hcz48_3 : w46.cell? ⟨gb140, 3, none⟩ = some (.slice none 0 0) := (blk_cell BK140.out 3).trans rfl; have hfz48_0 := blk_frozen BK140.out 0; have hfz48_1 := blk_frozen BK140.out 1; have hfz48_2 := blk_frozen BK140.out 2; have hfz48_3 := blk_frozen BK140.out 3))
                      have n0_ : Aside0 (((((w46.setCell ⟨gb140, 0, none⟩ (.int .i64 ((rd_T44 ((rd_T72 l0 0).f2.f0) a1).f0))).setCell ⟨gb140, 1, none⟩ (.int .i64 ((rd_T44 ((rd_T72 l0 0).f2.f0) a1).f1))).setCell ⟨gb140, 2, none⟩ (.int .i64 ((rd_T44 ((rd_T72 l0 0).f2.f0) a1).f2))).setCell ⟨gb140, 3, none⟩ (.slice A139_3 ((rd_T44 ((rd_T72 l0 0).f2.f0) a1).f3).length c139_3)).heap[gb136]? = some (.cells #[.int .i64 0, .int .i64 0] 40 (0, 0))) := ⟨by (with_reducible repeat (first | refine blk_drewN ?_ _ | refine blk_drew ?_ | refine blk_alloc ?_ _)); refine blk_far ?_ NB136_140.out _; (with_reducible repeat (first | refine blk_drewN ?_ _ | refine blk_drew ?_ | refine blk_alloc ?_ _)); refine blk_far ?_ NB136_140.out _; (with_reducible repeat (first | refine blk_drewN ?_ _ | refine blk_drew ?_ | refine blk_alloc ?_ _)); refine blk_far ?_ NB136_140.out _; (with_reducible repeat (first | refine blk_drewN ?_ _ | refine blk_drew ?_ | refine blk_alloc ?_ _)); refine blk_far ?_ NB136_140.out _; (with_reducible repeat (first | refine blk_drewN ?_ _ | refine blk_drew ?_ | refine blk_alloc ?_ _)); exact BK136.out⟩
                      have n1_ : Aside0 (((((w46.setCell ⟨gb140, 0, none⟩ (.int .i64 ((rd_T44 ((rd_T72 l0 0).f2.f0) a1).f0))).setCell ⟨gb140, 1, none⟩ (.int .i64 ((rd_T44 ((rd_T72 l0 0).f2.f0) a1).f1))).setCell ⟨gb140, 2, none⟩ (.int .i64 ((rd_T44 ((rd_T72 l0 0).f2.f0) a1).f2))).setCell ⟨gb140, 3, none⟩ (.slice A139_3 ((rd_T44 ((rd_T72 l0 0).f2.f0) a1).f3).length c139_3)).heap[gb140]? = some (.cells #[.int .i64 ((rd_T44 ((rd_T72 l0 0).f2.f0) a1).f0), .int .i64 ((rd_T44 ((rd_T72 l0 0).f2.f0) a1).f1), .int .i64 ((rd_T44 ((rd_T72 l0 0).f2.f0) a1).f2), .slice A139_3 ((rd_T44 ((rd_T72 l0 0).f2.f0) a1).f3).length c139_3] 44 (0, 0))) := ⟨by (with_reducible repeat (first | refine blk_drewN ?_ _ | refine blk_drew ?_ | refine blk_alloc ?_ _)); refine blk_put (cs := #[.int .i64 ((rd_T44 ((rd_T72 l0 0).f2.f0) a1).f0), .int .i64 ((rd_T44 ((rd_T72 l0 0).f2.f0) a1).f1), .int .i64 ((rd_T44 ((rd_T72 l0 0).f2.f0) a1).f2), .slice none 0 0]) ?_ 3 _ rfl; (with_reducible repeat (first | refine blk_drewN ?_ _ | refine blk_drew ?_ | refine blk_alloc ?_ _)); refine blk_put (cs := #[.int .i64 ((rd_T44 ((rd_T72 l0 0).f2.f0) a1).f0), .int .i64 ((rd_T44 ((rd_T72 l0 0).f2.f0) a1).f1), .int .i64 0, .slice none 0 0]) ?_ 2 _ rfl; (with_reducible repeat (first | refine blk_drewN ?_ _ | refine blk_drew ?_ | refine blk_alloc ?_ _)); refine blk_put (cs := #[.int .i64 ((rd_T44 ((rd_T72 l0 0).f2.f0) a1).f0), .int .i64 0, .int .i64 0, .slice none 0 0]) ?_ 1 _ rfl; (with_reducible repeat (first | refine blk_drewN ?_ _ | refine blk_drew ?_ | refine blk_alloc ?_ _)); refine blk_put (cs := #[.int .i64 0, .int .i64 0, .int .i64 0, .slice none 0 0]) ?_ 0 _ rfl; (with_reducible repeat (first | refine blk_drewN ?_ _ | refine blk_drew ?_ | refine blk_alloc ?_ _)); exact BK140.out⟩
                      have n2_ : Aside0 (Below w.heap.size w ((((w46.setCell ⟨gb140, 0, none⟩ (.int .i64 ((rd_T44 ((rd_T72 l0 0).f2.f0) a1).f0))).setCell ⟨gb140, 1, none⟩ (.int .i64 ((rd_T44 ((rd_T72 l0 0).f2.f0) a1).f1))).setCell ⟨gb140, 2, none⟩ (.int .i64 ((rd_T44 ((rd_T72 l0 0).f2.f0) a1).f2))).setCell ⟨gb140, 3, none⟩ (.slice A139_3 ((rd_T44 ((rd_T72 l0 0).f2.f0) a1).f3).length c139_3))) := ⟨by repeat (first | (with_reducible first | exact HB.out | apply below_alloc | apply pw_below_drewN | apply below_drew1 | refine below_set ?_ GE136.out | refine below_set ?_ GE140.out) | exact HB.out)⟩
                      (try clear BK136)
                      (try clear BK140)
                      (try clear HB)
                      generalize ((((w46.setCell ⟨gb140, 0, none⟩ (.int .i64 ((rd_T44 ((rd_T72 l0 0).f2.f0) a1).f0))).setCell ⟨gb140, 1, none⟩ (.int .i64 ((rd_T44 ((rd_T72 l0 0).f2.f0) a1).f1))).setCell ⟨gb140, 2, none⟩ (.int .i64 ((rd_T44 ((rd_T72 l0 0).f2.f0) a1).f2))).setCell ⟨gb140, 3, none⟩ (.slice A139_3 ((rd_T44 ((rd_T72 l0 0).f2.f0) a1).f3).length c139_3)) = w49 at n0_ n1_ n2_ ⊢
                      have BK136 := n0_
                      have BK140 := n1_
                      have HB := n2_
                      clear n0_ n1_ n2_
                      have n0_ := Aside0.mk (blk_drew BK136.out)
                      have n1_ := Aside0.mk (blk_drew BK140.out)
                      have n2_ := Aside0.mk (below_drew1 HB.out)
                      clear BK136
                      clear BK140
                      clear HB
                      have BK136 := n0_
                      have BK140 := n1_
                      have HB := n2_
                      clear n0_ n1_ n2_
                      have p145 : 0 ≤ (0 : Int) := (by omega)
                      have q145 : 0 < (l0.length : Int) := of_decide_eq_true (by first | (with_reducible assumption) | assumption)
                      obtain ⟨ad145, A145_0, c145_0, A145_1, c145_1, A145_2, c145_2, e145, hx145_0, hx145_1, hx145_2, hl145_0, hi145_0, hl145_1, hi145_1, hl145_2, hi145_2⟩ := at_T72 HR0.out 0 p145 q145
                      have hw145_2 := hx145_2
                      (try rw [show ((0 : Int)).toNat = 0 from rfl] at hw145_2)
                      (try rw [show 0 * 3 = 0 from rfl] at hw145_2)
                      (try rw [Addr.add_zero'] at hw145_2)
                      have hw145_1 := hx145_1
                      (try rw [show ((0 : Int)).toNat = 0 from rfl] at hw145_1)
                      (try rw [show 0 * 3 = 0 from rfl] at hw145_1)
                      (try rw [Addr.add_zero'] at hw145_1)
                      have hw145_0 := hx145_0
                      (try rw [show ((0 : Int)).toNat = 0 from rfl] at hw145_0)
                      (try rw [show 0 * 3 = 0 from rfl] at hw145_0)
                      (try rw [Addr.add_zero'] at hw145_0)
                      obtain rfl : ad135 = ad145 := (by injection e145)
                      have qi145 : (0 < l0.length) = True := eq_true (by omega)
                      (try rw [show ((0 : Int)).toNat = 0 from rfl] at hx145_0)
                      (try rw [show 0 * 3 = 0 from rfl] at hx145_0)
                      (try rw [Addr.add_zero'] at hx145_0)
                      (try rw [show ((0 : Int)).toNat = 0 from rfl] at hx145_1)
                      (try rw [show 0 * 3 = 0 from rfl] at hx145_1)
                      (try rw [Addr.add_zero'] at hx145_1)
                      (try rw [show ((0 : Int)).toNat = 0 from rfl] at hx145_2)
                      (try rw [show 0 * 3 = 0 from rfl] at hx145_2)
                      (try rw [Addr.add_zero'] at hx145_2)
                      replace hx145_0 := (HB.out.cell (World.block_lt_of_cell? w _ hx145_0)).trans hx145_0
                      replace hx145_1 := (HB.out.cell (World.block_lt_of_cell? w _ hx145_1)).trans hx145_1
                      replace hx145_2 := (HB.out.cell (World.block_lt_of_cell? w _ hx145_2)).trans hx145_2
                      have HR145_0 := Aside0.mk hi145_0
                      have HC145_0 := Aside0.mk hl145_0
                      clear hi145_0 hl145_0
                      have HR145_1 := Aside0.mk hi145_1
                      have HC145_1 := Aside0.mk hl145_1
                      clear hi145_1 hl145_1
                      have HR145_2 := Aside0.mk hi145_2
                      have HC145_2 := Aside0.mk hl145_2
                      clear hi145_2 hl145_2
                      replace p145 := eq_true p145
                      replace q145 := eq_true q145
                      refine start_ (n := 9) (S := fun w' => w'.cell? ⟨gb140, 0, none⟩ = some (.int .i64 ((rd_T44 ((rd_T72 l0 0).f2.f0) a1).f0)) ∧ w'.cell? ⟨gb140, 1, none⟩ = some (.int .i64 ((rd_T44 ((rd_T72 l0 0).f2.f0) a1).f1)) ∧ w'.cell? ⟨gb140, 2, none⟩ = some (.int .i64 ((rd_T44 ((rd_T72 l0 0).f2.f0) a1).f2)) ∧ w'.cell? ⟨gb140, 3, none⟩ = some (.slice A139_3 ((rd_T44 ((rd_T72 l0 0).f2.f0) a1).f3).length c139_3) ∧ w'.cell? ad135 = some (.slice A145_0 ((rd_T72 l0 0).f0).length c145_0) ∧ w'.cell? ⟨ad135.block, ad135.off + 1, none⟩ = some (.slice A145_1 ((rd_T72 l0 0).f1).length c145_1) ∧ w'.cell? ⟨ad135.block, ad135.off + 2, none⟩ = some (.slice A145_2 ((rd_T72 l0 0).f2.f0).length c145_2)) (ds := []) #[false, false, false, false, false, false, false, false, false] (by kernel_rfl) rfl rfl ⟨(blk_cell BK140.out 0).trans rfl, (blk_cell BK140.out 1).trans rfl, (blk_cell BK140.out 2).trans rfl, (blk_cell BK140.out 3).trans rfl, ((HB.out.cell (World.block_lt_of_cell? w _ hw145_0)).trans hw145_0), ((HB.out.cell (World.block_lt_of_cell? w _ hw145_1)).trans hw145_1), ((HB.out.cell (World.block_lt_of_cell? w _ hw145_2)).trans hw145_2)⟩ (fun hHeld => ?_); refine with_tabW view_File_Span.tab6 view_File_Span.bits6 (fun HT_ HW_ => ?_)
                      generalize w49.drew = w50 at BK136 BK140 HB HR145_0 HR145_1 HR145_2 hx145_0 hx145_1 hx145_2 hHeld ⊢
                      refine pure_ (i := 0) (N := some 59) (v := ?_) (a' := ?_) #[true, false, false, false, false, false, false, false, false] rfl rfl (any_of HT_.out (by kernel_rfl)) (fun _ _ _ h => h) (Or.inl ⟨by rfl, ?_⟩) ?_ ?_; rotate_left; { intro w'; go_simp; with_reducible rfl }; rotate_left; { simp only [Act.put, List.setIfInBounds_toArray, List.set_cons_zero, List.set_cons_succ, i64_w, i32_w]; rfl }
                      refine pure_ (i := 2) (N := some 61) (v := ?_) (a' := ?_) #[true, false, true, false, false, false, false, false, false] rfl rfl (any_of HT_.out (by kernel_rfl)) (fun _ _ _ h => h) (Or.inl ⟨by rfl, ?_⟩) ?_ ?_; rotate_left; { intro w'; go_simp; with_reducible rfl }; rotate_left; { simp only [Act.put, List.setIfInBounds_toArray, List.set_cons_zero, List.set_cons_succ, i64_w, i32_w]; rfl }
                      refine pure_ (i := 3) (N := some 62) (v := ?_) (a' := ?_) #[true, false, true, true, false, false, false, false, false] rfl rfl (any_of HT_.out (by kernel_rfl)) (fun _ _ _ h => h) (Or.inl ⟨by rfl, ?_⟩) ?_ ?_; rotate_left; { intro w'; go_simp; with_reducible rfl }; rotate_left; { simp only [Act.put, List.setIfInBounds_toArray, List.set_cons_zero, List.set_cons_succ, i64_w, i32_w]; rfl }
                      refine pure_ (i := 4) (N := some 63) (v := ?_) (a' := ?_) #[true, false, true, true, true, false, false, false, false] rfl rfl (any_of HT_.out (by kernel_rfl)) (fun _ _ _ h => h) (Or.inl ⟨by rfl, ?_⟩) ?_ ?_; rotate_left; { intro w'; go_simp; with_reducible rfl }; rotate_left; { simp only [Act.put, List.setIfInBounds_toArray, List.set_cons_zero, List.set_cons_succ, i64_w, i32_w]; rfl }
                      refine take_ (i := 1) (N := some 60) (v := ?_) (a' := ?_) #[true, true, true, true, true, false, false, false, false] rfl rfl (take_ofW HT_.out HW_.out (by kernel_rfl)) (fun _ _ _ h => h) (Or.inl ⟨by rfl, ?_⟩) hHeld ?_ ?_; rotate_left; { rintro w' ⟨s0, s1, s2, s3, s4, s5, s6⟩; go_simp; with_reducible rfl }; rotate_left; { simp only [Act.put, List.setIfInBounds_toArray, List.set_cons_zero, List.set_cons_succ, i64_w, i32_w]; rfl }
                      refine take_ (i := 5) (N := some 64) (v := ?_) (a' := ?_) #[true, true, true, true, true, true, false, false, false] rfl rfl (take_ofW HT_.out HW_.out (by kernel_rfl)) (fun _ _ _ h => h) (Or.inl ⟨by rfl, ?_⟩) hHeld ?_ ?_; rotate_left; { rintro w' ⟨s0, s1, s2, s3, s4, s5, s6⟩; go_simp; with_reducible rfl }; rotate_left; { simp only [Act.put, List.setIfInBounds_toArray, List.set_cons_zero, List.set_cons_succ, i64_w, i32_w]; rfl }
                      refine pure_ (i := 6) (N := some 65) (v := ?_) (a' := ?_) #[true, true, true, true, true, true, true, false, false] rfl rfl (any_of HT_.out (by kernel_rfl)) (fun _ _ _ h => h) (Or.inl ⟨by rfl, ?_⟩) ?_ ?_; rotate_left; { intro w'; go_simp; with_reducible rfl }; rotate_left; { simp only [Act.put, List.setIfInBounds_toArray, List.set_cons_zero, List.set_cons_succ, i64_w, i32_w]; rfl }
                      refine pure_ (i := 7) (N := some 66) (v := ?_) (a' := ?_) #[true, true, true, true, true, true, true, true, false] rfl rfl (any_of HT_.out (by kernel_rfl)) (fun _ _ _ h => h) (Or.inl ⟨by rfl, ?_⟩) ?_ ?_; rotate_left; { intro w'; go_simp; with_reducible rfl }; rotate_left; { simp only [Act.put, List.setIfInBounds_toArray, List.set_cons_zero, List.set_cons_succ, i64_w, i32_w]; rfl }
                      refine pure_ (i := 8) (N := some 58) (v := ?_) (a' := ?_) #[true, true, true, true, true, true, true, true, true] rfl rfl (any_of HT_.out (by kernel_rfl)) (fun _ _ _ h => h) (Or.inl ⟨by rfl, ?_⟩) ?_ ?_; rotate_left; { intro w'; go_simp; with_reducible rfl }; rotate_left; { simp only [Act.put, List.setIfInBounds_toArray, List.set_cons_zero, List.set_cons_succ, i64_w, i32_w]; rfl }
                      refine done_ (done_of HT_.out (by kernel_rfl)) ?_
                      have p150 : 0 ≤ (0 : Int) := (by omega)
                      have q150 : 0 < (l0.length : Int) := of_decide_eq_true (by first | (with_reducible assumption) | assumption)
                      obtain ⟨ad150, A150_0, c150_0, A150_1, c150_1, A150_2, c150_2, e150, hx150_0, hx150_1, hx150_2, hl150_0, hi150_0, hl150_1, hi150_1, hl150_2, hi150_2⟩ := at_T72 HR0.out 0 p150 q150
                      obtain rfl : ad135 = ad150 := (by injection e150)
                      have qi150 : (0 < l0.length) = True := eq_true (by omega)
                      (try rw [show ((0 : Int)).toNat = 0 from rfl] at hx150_0)
                      (try rw [show 0 * 3 = 0 from rfl] at hx150_0)
                      (try rw [Addr.add_zero'] at hx150_0)
                      (try rw [show ((0 : Int)).toNat = 0 from rfl] at hx150_1)
                      (try rw [show 0 * 3 = 0 from rfl] at hx150_1)
                      (try rw [Addr.add_zero'] at hx150_1)
                      (try rw [show ((0 : Int)).toNat = 0 from rfl] at hx150_2)
                      (try rw [show 0 * 3 = 0 from rfl] at hx150_2)
                      (try rw [Addr.add_zero'] at hx150_2)
                      replace hx150_0 := (HB.out.cell (World.block_lt_of_cell? w _ hx150_0)).trans hx150_0
                      replace hx150_1 := (HB.out.cell (World.block_lt_of_cell? w _ hx150_1)).trans hx150_1
                      replace hx150_2 := (HB.out.cell (World.block_lt_of_cell? w _ hx150_2)).trans hx150_2
                      have HR150_0 := Aside0.mk hi150_0
                      have HC150_0 := Aside0.mk hl150_0
                      clear hi150_0 hl150_0
                      have HR150_1 := Aside0.mk hi150_1
                      have HC150_1 := Aside0.mk hl150_1
                      clear hi150_1 hl150_1
                      have HR150_2 := Aside0.mk hi150_2
                      have HC150_2 := Aside0.mk hl150_2
                      clear hi150_2 hl150_2
                      replace p150 := eq_true p150
                      replace q150 := eq_true q150
                      have ea_ := Option.some.inj (hx145_0.symm.trans hx150_0)
                      injection ea_ with ea_ en_ ec_
                      subst ea_
                      subst ec_
                      clear en_
                      have ea_ := Option.some.inj (hx145_1.symm.trans hx150_1)
                      injection ea_ with ea_ en_ ec_
                      subst ea_
                      subst ec_
                      clear en_
                      have ea_ := Option.some.inj (hx145_2.symm.trans hx150_2)
                      injection ea_ with ea_ en_ ec_
                      subst ea_
                      subst ec_
                      clear en_
                      have hcz51_0 : w50.cell? ⟨gb136, 0, none⟩ = some (.int .i64 0) := (blk_cell BK136.out 0).trans rfl
                      have hcz51_1 : w50.cell? ⟨gb136, 1, none⟩ = some (.int .i64 0) := (blk_cell BK136.out 1).trans rfl
                      have hfz51_0 := blk_frozen BK136.out 0
                      have hfz51_1 := blk_frozen BK136.out 1
                      try go_wp2
                      refine bodyPost_ret (results_cell_row rfl _ _ gb136 40 #[.int .i64 0, .int .i64 0] (0, 0) _ rfl (by (with_reducible repeat (first | refine blk_drewN ?_ _ | refine blk_drew ?_ | refine blk_alloc ?_ _)); refine blk_put (cs := #[.int .i64 0, .int .i64 0]) ?_ 1 _ rfl; (with_reducible repeat (first | refine blk_drewN ?_ _ | refine blk_drew ?_ | refine blk_alloc ?_ _)); refine blk_put (cs := #[.int .i64 0, .int .i64 0]) ?_ 0 _ rfl; (with_reducible repeat (first | refine blk_drewN ?_ _ | refine blk_drew ?_ | refine blk_alloc ?_ _)); exact BK136.out) Try.underlying40 rfl (by kernel_rfl)) rfl ?_
                      exact ⟨by first | rfl | (simp [errW_none, errW_some, erT_no, erV_no, erT_at, erV_at] <;> rfl) | (simp [*, errW_none, errW_some, erT_no, erV_no, erT_at, erV_at] <;> rfl), by repeat (first | (with_reducible first | exact HB.out | apply below_alloc | apply pw_below_drewN | apply below_drew1 | refine below_set ?_ GE136.out | refine below_set ?_ GE140.out) | exact HB.out)⟩
              · rw [if_neg c11] at H
                exact absurd H (by simp)
            · rw [if_neg c10] at H
              exact absurd H (by simp)
          · rw [if_neg c9] at H
            exact absurd H (by simp)
  · rw [if_neg c3] at H
    exact absurd H (by simp)

end Go.Proofs.Ytnpgadfoohjlnaa.QV
