/- Where a Lean function of this text answers, the Go function of its name comes to that answer: no other condition. Written by a program of this session out of the translation; Lean checks it. -/
import Derived.Test.YtnpgadfoohjlnaaDoorQV0
namespace Go.Proofs.YtnpgadfoohjlnaaDoor.QV
open Go.RowKit Go.Proofs.YtnpgadfoohjlnaaDoorW.PrintWords Go.Proofs.YtnpgadfoohjlnaaDoorW.PrintLast Go.Proofs.YtnpgadfoohjlnaaDoorW.PrintMore Go.Proofs.YtnpgadfoohjlnaaDoorW.PrintX
attribute [local go_sem] max2_int min2_int max_two min_two max_three min_three max_four min_four   -- for this text's walks alone
set_option linter.unusedVariables false
set_option linter.unusedSimpArgs false

/-! ### view_File_Span: function 71 -/
def view_File_Span.j0 : Nat → List (S100) → Int → Bool → Option (Int × Int)
 | 0, _, _, _ => none
 | k + 1, x0, x1, x22 => if x22 = true then (some (0, 0)) else (if 0 < (x0.length : Int) then (if 0 ≤ x1 then (if x1 < (((rd_T100 x0 0).f2.f0).length : Int) then (if ((rd_T33 ((rd_T100 x0 0).f2.f0) x1).f1) < ((rd_T33 ((rd_T100 x0 0).f2.f0) x1).f2) then (if 0 ≤ ((rd_T33 ((rd_T100 x0 0).f2.f0) x1).f1) then (if ((rd_T33 ((rd_T100 x0 0).f2.f0) x1).f1) < (((rd_T100 x0 0).f1).length : Int) then (if 0 ≤ (wrap64 (((rd_T33 ((rd_T100 x0 0).f2.f0) x1).f2) - 1)) then (if (wrap64 (((rd_T33 ((rd_T100 x0 0).f2.f0) x1).f2) - 1)) < (((rd_T100 x0 0).f1).length : Int) then (some ((rd_T103 ((rd_T100 x0 0).f1) ((rd_T33 ((rd_T100 x0 0).f2.f0) x1).f1)).f1, (rd_T103 ((rd_T100 x0 0).f1) (wrap64 (((rd_T33 ((rd_T100 x0 0).f2.f0) x1).f2) - 1))).f2)) else (none)) else (none)) else (none)) else (none)) else (if ((rd_T33 ((rd_T100 x0 0).f2.f0) x1).f1) < (((rd_T100 x0 0).f1).length : Int) then (if 0 ≤ ((rd_T33 ((rd_T100 x0 0).f2.f0) x1).f1) then (some ((rd_T103 ((rd_T100 x0 0).f1) ((rd_T33 ((rd_T100 x0 0).f2.f0) x1).f1)).f1, (rd_T103 ((rd_T100 x0 0).f1) ((rd_T33 ((rd_T100 x0 0).f2.f0) x1).f1)).f1)) else (none)) else (if (((rd_T100 x0 0).f1).length : Int) > 0 then (if 0 ≤ (wrap64 ((((rd_T100 x0 0).f1).length : Int) - 1)) then (if (wrap64 ((((rd_T100 x0 0).f1).length : Int) - 1)) < (((rd_T100 x0 0).f1).length : Int) then (some ((rd_T103 ((rd_T100 x0 0).f1) (wrap64 ((((rd_T100 x0 0).f1).length : Int) - 1))).f2, (rd_T103 ((rd_T100 x0 0).f1) (wrap64 ((((rd_T100 x0 0).f1).length : Int) - 1))).f2)) else (none)) else (none)) else (some (0, 0))))) else (none)) else (none)) else (none))
def view_File_Span.f (k : Nat) (l0 : List (S100)) (a1 : Int) : Option (Int × Int) := if 0 < (l0.length : Int) then (if a1 < 0 then (view_File_Span.j0 k l0 a1 true) else (view_File_Span.j0 k l0 a1 (decide (a1 ≥ (((rd_T100 l0 0).f2.f0).length : Int))))) else (none)
theorem view_File_Span.mono_l : ∀ k, (∀ y0 y1 y2, LeO (view_File_Span.j0 k y0 y1 y2) (view_File_Span.j0 (k + 1) y0 y1 y2))
 | 0 => fun _ _ _ r h => by simp [view_File_Span.j0] at h
 | k + 1 => by
  have ih0 := view_File_Span.mono_l k
  ·intro y0 y1 y2
   unfold view_File_Span.j0
   repeat' first
   | (with_reducible exact ih0 _ _ _)
   | (with_reducible exact LeO.refl _)
   | (with_reducible exact LeO.none _)
   | (with_reducible refine LeO.ite ?_ ?_)
   | (with_reducible refine LeO.bind ?_ (fun _ => ?_))
   | exact ih0 _ _ _
   | exact LeO.none _
   | refine LeO.ite ?_ ?_
   | refine LeO.bind ?_ (fun _ => ?_)
theorem view_File_Span.mono : ∀ a0 a1 k, LeO (view_File_Span.f k a0 a1) (view_File_Span.f (k + 1) a0 a1) := by
 intro a0 a1 k
 have ih0 := view_File_Span.mono_l k
 unfold view_File_Span.f
 repeat' first
   | (with_reducible exact ih0 _ _ _)
   | (with_reducible exact LeO.refl _)
   | (with_reducible exact LeO.none _)
   | (with_reducible refine LeO.ite ?_ ?_)
   | (with_reducible refine LeO.bind ?_ (fun _ => ?_))
   | exact ih0 _ _ _
   | exact LeO.none _
   | refine LeO.ite ?_ ?_
   | refine LeO.bind ?_ (fun _ => ?_)
def view_File_Span.T5 : Bool × List (List Nat × List Nat) := (true, [([], []), ([0], [0]), ([1], [1]), ([2], [2]), ([], []), ([4], [4]), ([3, 5], [3, 5]), ([6], [6]), ([7], [7]), ([], []), ([9], [9]), ([10], [10]), ([11], [11]), ([], []), ([13], [13]), ([14], [14]), ([12, 15], [12, 15]), ([16], [16]), ([17], [17]), ([8, 18], [8, 18]), ([19, 0, 1, 2, 3, 4, 5, 6, 7, 8, 9, 10, 11, 12, 13, 14, 15, 16, 17, 18, 19], [19])])
def view_File_Span.B5 : List Nat := [0, 1, 3, 7, 0, 16, 63, 127, 255, 0, 512, 1536, 3584, 0, 8192, 24576, 65024, 130560, 261632, 524287, 1048575]
theorem view_File_Span.tab5 : rtab .any (opsOf Tryd.f71 5) = view_File_Span.T5 := by kernel_rfl
theorem view_File_Span.bits5 : waitsOk view_File_Span.T5.2 view_File_Span.B5 = true := by kernel_rfl
def view_File_Span.T6 : Bool × List (List Nat × List Nat) := (true, [([], []), ([0], [0]), ([], []), ([2], [2]), ([3], [3]), ([4], [4]), ([5], [5]), ([1, 6], [1, 6]), ([7], [7])])
def view_File_Span.B6 : List Nat := [0, 1, 0, 4, 12, 28, 60, 127, 255]
theorem view_File_Span.tab6 : rtab .any (opsOf Tryd.f71 6) = view_File_Span.T6 := by kernel_rfl
theorem view_File_Span.bits6 : waitsOk view_File_Span.T6.2 view_File_Span.B6 = true := by kernel_rfl
def view_File_Span.T7 : Bool × List (List Nat × List Nat) := (true, [([], []), ([0], [0]), ([1], [1]), ([2], [2]), ([], []), ([4], [4]), ([3, 5], [3, 5]), ([6], [6]), ([7], [7]), ([], []), ([9], [9]), ([10], [10]), ([11], [11]), ([], []), ([13], [13]), ([12, 14], [12, 14]), ([15], [15]), ([16], [16]), ([8, 17], [8, 17]), ([18, 0, 1, 2, 3, 4, 5, 6, 7, 8, 9, 10, 11, 12, 13, 14, 15, 16, 17, 18], [18])])
def view_File_Span.B7 : List Nat := [0, 1, 3, 7, 0, 16, 63, 127, 255, 0, 512, 1536, 3584, 0, 8192, 32256, 65024, 130560, 262143, 524287]
theorem view_File_Span.tab7 : rtab .any (opsOf Tryd.f71 7) = view_File_Span.T7 := by kernel_rfl
theorem view_File_Span.bits7 : waitsOk view_File_Span.T7.2 view_File_Span.B7 = true := by kernel_rfl
def view_File_Span.T9 : Bool × List (List Nat × List Nat) := (true, [([], []), ([0], [0]), ([1], [1]), ([2], [2]), ([], []), ([4], [4]), ([5], [5]), ([6], [6]), ([7], [7]), ([8], [8]), ([3, 9], [3, 9]), ([10], [10]), ([11], [11]), ([12, 0, 1, 2, 3, 4, 5, 6, 7, 8, 9, 10, 11, 12], [12])])
def view_File_Span.B9 : List Nat := [0, 1, 3, 7, 0, 16, 48, 112, 240, 496, 1023, 2047, 4095, 8191]
theorem view_File_Span.tab9 : rtab .any (opsOf Tryd.f71 9) = view_File_Span.T9 := by kernel_rfl
theorem view_File_Span.bits9 : waitsOk view_File_Span.T9.2 view_File_Span.B9 = true := by kernel_rfl
set_option maxHeartbeats 8000000 in
set_option maxRecDepth 100000 in
theorem view_File_Span.calls (k : Nat) (A0 : Option Addr) (c0 : Nat) (l0 : List (S100)) (a1 : Int) (r1 : Int) (r2 : Int) (w : World) (hr0 : Kd.C k100 w A0 l0.length l0) (hc0 : l0.length ≤ c0) (h : view_File_Span.f k l0 a1 = some (r1, r2)) :
  Calls Tryd.prog 71 #[.pointer A0, .int .i64 a1] w fun e w' => e = .returned (.agg #[.int .i64 r1, .int .i64 r2]) ∧ Below w.heap.size w w' := by
 have hu105 := Tryd.underlying105
 have hu33 := Tryd.underlying33
 have HR0 := Aside0.mk hr0
 have HC0 := Aside0.mk hc0
 clear hr0 hc0
 have HB := Aside0.mk (Below.refl w.heap.size w)
 have H : (if 0 < (l0.length : Int) then (if a1 < 0 then (view_File_Span.j0 k l0 a1 true) else (view_File_Span.j0 k l0 a1 (decide (a1 ≥ (((rd_T100 l0 0).f2.f0).length : Int))))) else (none)) = some (r1, r2) := h
 clear h
 by_cases c3 : 0 < (l0.length : Int)
 ·rw [if_pos c3] at H
  have c3b0 : decide (0 < (l0.length : Int)) = true := decide_eq_true c3
  have c3b1 : decide (0 < l0.length) = true := decide_eq_true (by omega)
  clear c3
  have HC4 := Aside0.mk H
  clear H
  have p235 : 0 ≤ (0 : Int) := (by omega)
  have q235 : 0 < (l0.length : Int) := of_dec
  obtain ⟨ad235, A235_0, c235_0, A235_1, c235_1, A235_2, c235_2, e235, hx235_0, hx235_1, hx235_2, hl235_0, hi235_0, hl235_1, hi235_1, hl235_2, hi235_2⟩ := at_T100 HR0.out 0 p235 q235
  cases e235
  have qi235 : (0 < l0.length) = True := eq_true (by omega)
  (try rw [show ((0 : Int)).toNat = 0 from rfl] at hx235_0)
  (try rw [show 0 * 3 = 0 from rfl] at hx235_0)
  (try rw [Addr.add_zero'] at hx235_0)
  (try rw [show ((0 : Int)).toNat = 0 from rfl] at hx235_1)
  (try rw [show 0 * 3 = 0 from rfl] at hx235_1)
  (try rw [Addr.add_zero'] at hx235_1)
  (try rw [show ((0 : Int)).toNat = 0 from rfl] at hx235_2)
  (try rw [show 0 * 3 = 0 from rfl] at hx235_2)
  (try rw [Addr.add_zero'] at hx235_2)
  have HR235_0 := Aside0.mk hi235_0
  have HC235_0 := Aside0.mk hl235_0
  clear hi235_0 hl235_0
  have HR235_1 := Aside0.mk hi235_1
  have HC235_1 := Aside0.mk hl235_1
  clear hi235_1 hl235_1
  have HR235_2 := Aside0.mk hi235_2
  have HC235_2 := Aside0.mk hl235_2
  clear hi235_2 hl235_2
  replace p235 := eq_true p235
  replace q235 := eq_true q235
  go_enter Tryd.func71, Tryd.ntmps71
  go_upto_region 1 with (first | ((with_reducible refine gate_dst (N := 4) rfl ?_); (try (refine gate_guard (by rfl) ?_; dsimp only)); refine box_event ?hg (N := 4) ?hd (cs := #[.int .i64 0, .int .i64 0]) (t := 105) ?hr ?_; (case hd => rfl); (case hg => rfl); (case hr => first | (go_simp; done) | (go_simp; rfl)); intro gb236 hg w5 hbox hb; have n0_ := Aside0.mk (below_step (go_b HB.out) hb); have n1_ := Aside0.mk (hbox); have n2_ := Aside0.mk ((by rw [hg]; exact (below_size (go_b HB.out)) : w.heap.size ≤ gb236)); have n3_ := n2_; clear HB; have HB := n0_; have BK236 := n1_; have GW236 := n2_; have GE236 := n3_; clear n0_ n1_ n2_ n3_; clear hb hbox hg))
  (try simp only [Act.put, List.setIfInBounds_toArray, List.set_cons_zero, List.set_cons_succ])
  go_cut [22] (fun v22 wc => ∃ (kq : Nat) (x22_3 : Bool), v22 = .bool x22_3 ∧ Aside0 (view_File_Span.j0 kq l0 a1 x22_3 = some (r1, r2)) ∧ Aside0 (kq ≤ k) ∧ Aside0 (wc.heap[gb236]? = some (.cells #[.int .i64 0, .int .i64 0] 105 (0, 0))) ∧ Aside0 (Below w.heap.size w wc))
  case first =>
   have H := HC4.out
   clear HC4
   by_cases c6 : a1 < 0
   ·rw [if_pos c6] at H
    have c6b0 : decide (a1 < 0) = true := decide_eq_true c6
    clear c6
    (first | rw [c6b0] | (simp only [i64_w, i32_w]; rw [c6b0]) | skip)
    have H' := Aside0.mk H
    clear H
    go_wp2
    go_meet
    case rel => exact ⟨_, (true), (by first | rfl | (simp; done) | (simp [*]; done)), H', ⟨by first | omega | exact Nat.le_refl _⟩, ⟨by (with_reducible repeat (first | refine blk_drewN ?_ _ | refine blk_drew ?_ | refine blk_alloc ?_ _)); exact BK236.out⟩, ⟨by repeat (first | (with_reducible first | exact HB.out | apply below_alloc | apply pw_below_drewN | apply below_drew1 | refine below_set ?_ GE236.out) | exact HB.out)⟩⟩
   ·rw [if_neg c6] at H
    have c6b0 : decide (a1 < 0) = false := decide_eq_false c6
    clear c6
    (first | rw [c6b0] | (simp only [i64_w, i32_w]; rw [c6b0]) | skip)
    have H' := Aside0.mk H
    clear H
    have p237 : 0 ≤ (0 : Int) := (by omega)
    have q237 : 0 < (l0.length : Int) := of_dec
    obtain ⟨ad237, A237_0, c237_0, A237_1, c237_1, A237_2, c237_2, e237, hx237_0, hx237_1, hx237_2, hl237_0, hi237_0, hl237_1, hi237_1, hl237_2, hi237_2⟩ := at_T100 HR0.out 0 p237 q237
    obtain rfl : ad235 = ad237 := (by injection e237)
    have qi237 : (0 < l0.length) = True := eq_true (by omega)
    (try rw [show ((0 : Int)).toNat = 0 from rfl] at hx237_0)
    (try rw [show 0 * 3 = 0 from rfl] at hx237_0)
    (try rw [Addr.add_zero'] at hx237_0)
    (try rw [show ((0 : Int)).toNat = 0 from rfl] at hx237_1)
    (try rw [show 0 * 3 = 0 from rfl] at hx237_1)
    (try rw [Addr.add_zero'] at hx237_1)
    (try rw [show ((0 : Int)).toNat = 0 from rfl] at hx237_2)
    (try rw [show 0 * 3 = 0 from rfl] at hx237_2)
    (try rw [Addr.add_zero'] at hx237_2)
    replace hx237_0 := cell_b HB.out hx237_0
    replace hx237_1 := cell_b HB.out hx237_1
    replace hx237_2 := cell_b HB.out hx237_2
    have HR237_0 := Aside0.mk hi237_0
    have HC237_0 := Aside0.mk hl237_0
    clear hi237_0 hl237_0
    have HR237_1 := Aside0.mk hi237_1
    have HC237_1 := Aside0.mk hl237_1
    clear hi237_1 hl237_1
    have HR237_2 := Aside0.mk hi237_2
    have HC237_2 := Aside0.mk hl237_2
    clear hi237_2 hl237_2
    replace p237 := eq_true p237
    replace q237 := eq_true q237
    go_wp2
    go_meet
    case rel => exact ⟨_, (decide (a1 ≥ (((rd_T100 l0 0).f2.f0).length : Int))), (by first | rfl | (simp; done) | (simp [*]; done)), H', ⟨by first | omega | exact Nat.le_refl _⟩, ⟨by (with_reducible repeat (first | refine blk_drewN ?_ _ | refine blk_drew ?_ | refine blk_alloc ?_ _)); exact BK236.out⟩, ⟨by repeat (first | (with_reducible first | exact HB.out | apply below_alloc | apply pw_below_drewN | apply below_drew1 | refine below_set ?_ GE236.out) | exact HB.out)⟩⟩
  case rest =>
   clear HC4
   try clear c2
   try clear p2
   try clear q2
   try clear hx2
   try clear qi2
   try clear c3
   try clear c3b0
   try clear c3b1
   try clear c6
   try clear c6b0
   try clear hx235_0
   try clear hx235_1
   try clear hx235_2
   try clear hx237_0
   try clear hx237_1
   try clear hx237_2
   try clear p235
   try clear p237
   try clear q235
   try clear q237
   obtain ⟨kq, x22_3, rfl, HA, HJ3, BK236, HB⟩ := hcut
   cases kq with
   | zero => exact absurd HA.out (by simp [view_File_Span.j0])
   | succ kj3 =>
    have H := HA.out
    clear HA
    simp only [view_File_Span.j0] at H
    by_cases c7 : x22_3 = true
    ·subst c7
     have H1 : (some (0, 0)) = some (r1, r2) := by rw [if_pos rfl] at H; exact H
     clear H
     have H := H1
     clear H1
     simp only [Option.some.injEq, Prod.mk.injEq] at H
     obtain ⟨rfl, rfl⟩ := H
     have hcz8_0 : wc.cell? ⟨gb236, 0, none⟩ = some (.int .i64 0) := (blk_cell BK236.out 0).trans rfl
     have hcz8_1 : wc.cell? ⟨gb236, 1, none⟩ = some (.int .i64 0) := (blk_cell BK236.out 1).trans rfl
     have hfz8_0 := blk_frozen BK236.out 0
     have hfz8_1 := blk_frozen BK236.out 1
     go_wp2
     refine bodyPost_ret (results_cell_row rfl _ _ gb236 105 #[.int .i64 0, .int .i64 0] (0, 0) _ rfl (by (with_reducible repeat (first | refine blk_drewN ?_ _ | refine blk_drew ?_ | refine blk_alloc ?_ _)); refine blk_put (cs := #[.int .i64 0, .int .i64 0]) ?_ 1 _ rfl; refine blk_put (cs := #[.int .i64 0, .int .i64 0]) ?_ 0 _ rfl; (with_reducible repeat (first | refine blk_drewN ?_ _ | refine blk_drew ?_ | refine blk_alloc ?_ _)); exact BK236.out) Tryd.underlying105 rfl (by kernel_rfl)) rfl ?_
     exact ⟨by first | rfl | (simp [*, errW_none, errW_some, erT_no, erV_no, erT_at, erV_at] <;> rfl), by repeat (first | (with_reducible first | exact HB.out | apply below_alloc | apply pw_below_drewN | apply below_drew1 | refine below_set ?_ GE236.out) | exact HB.out)⟩
    ·replace c7 := Bool.eq_false_iff.mpr c7
     subst c7
     have H1 : (if 0 < (l0.length : Int) then (if 0 ≤ a1 then (if a1 < (((rd_T100 l0 0).f2.f0).length : Int) then (if ((rd_T33 ((rd_T100 l0 0).f2.f0) a1).f1) < ((rd_T33 ((rd_T100 l0 0).f2.f0) a1).f2) then (if 0 ≤ ((rd_T33 ((rd_T100 l0 0).f2.f0) a1).f1) then (if ((rd_T33 ((rd_T100 l0 0).f2.f0) a1).f1) < (((rd_T100 l0 0).f1).length : Int) then (if 0 ≤ (wrap64 (((rd_T33 ((rd_T100 l0 0).f2.f0) a1).f2) - 1)) then (if (wrap64 (((rd_T33 ((rd_T100 l0 0).f2.f0) a1).f2) - 1)) < (((rd_T100 l0 0).f1).length : Int) then (some ((rd_T103 ((rd_T100 l0 0).f1) ((rd_T33 ((rd_T100 l0 0).f2.f0) a1).f1)).f1, (rd_T103 ((rd_T100 l0 0).f1) (wrap64 (((rd_T33 ((rd_T100 l0 0).f2.f0) a1).f2) - 1))).f2)) else (none)) else (none)) else (none)) else (none)) else (if ((rd_T33 ((rd_T100 l0 0).f2.f0) a1).f1) < (((rd_T100 l0 0).f1).length : Int) then (if 0 ≤ ((rd_T33 ((rd_T100 l0 0).f2.f0) a1).f1) then (some ((rd_T103 ((rd_T100 l0 0).f1) ((rd_T33 ((rd_T100 l0 0).f2.f0) a1).f1)).f1, (rd_T103 ((rd_T100 l0 0).f1) ((rd_T33 ((rd_T100 l0 0).f2.f0) a1).f1)).f1)) else (none)) else (if (((rd_T100 l0 0).f1).length : Int) > 0 then (if 0 ≤ (wrap64 ((((rd_T100 l0 0).f1).length : Int) - 1)) then (if (wrap64 ((((rd_T100 l0 0).f1).length : Int) - 1)) < (((rd_T100 l0 0).f1).length : Int) then (some ((rd_T103 ((rd_T100 l0 0).f1) (wrap64 ((((rd_T100 l0 0).f1).length : Int) - 1))).f2, (rd_T103 ((rd_T100 l0 0).f1) (wrap64 ((((rd_T100 l0 0).f1).length : Int) - 1))).f2)) else (none)) else (none)) else (some (0, 0))))) else (none)) else (none)) else (none)) = some (r1, r2) := by rw [if_neg (show ¬ (false = true) by decide)] at H; exact H
     clear H
     have H := H1
     clear H1
     by_cases c9 : 0 < (l0.length : Int)
     ·rw [if_pos c9] at H
      have c9b0 : decide (0 < (l0.length : Int)) = true := decide_eq_true c9
      have c9b1 : decide (0 < l0.length) = true := decide_eq_true (by omega)
      clear c9
      by_cases c10 : 0 ≤ a1
      ·rw [if_pos c10] at H
       have c10b0 : decide (0 ≤ a1) = true := decide_eq_true c10
       clear c10
       by_cases c11 : a1 < (((rd_T100 l0 0).f2.f0).length : Int)
       ·rw [if_pos c11] at H
        have c11b0 : decide (a1 < (((rd_T100 l0 0).f2.f0).length : Int)) = true := decide_eq_true c11
        clear c11
        by_cases c12 : ((rd_T33 ((rd_T100 l0 0).f2.f0) a1).f1) < ((rd_T33 ((rd_T100 l0 0).f2.f0) a1).f2)
        ·rw [if_pos c12] at H
         have c12b0 : decide (((rd_T33 ((rd_T100 l0 0).f2.f0) a1).f1) < ((rd_T33 ((rd_T100 l0 0).f2.f0) a1).f2)) = true := decide_eq_true c12
         clear c12
         by_cases c13 : 0 ≤ ((rd_T33 ((rd_T100 l0 0).f2.f0) a1).f1)
         ·rw [if_pos c13] at H
          have c13b0 : decide (0 ≤ ((rd_T33 ((rd_T100 l0 0).f2.f0) a1).f1)) = true := decide_eq_true c13
          clear c13
          by_cases c14 : ((rd_T33 ((rd_T100 l0 0).f2.f0) a1).f1) < (((rd_T100 l0 0).f1).length : Int)
          ·rw [if_pos c14] at H
           have c14b0 : decide (((rd_T33 ((rd_T100 l0 0).f2.f0) a1).f1) < (((rd_T100 l0 0).f1).length : Int)) = true := decide_eq_true c14
           clear c14
           obtain ⟨ji15, hji15⟩ : ∃ j_ : Int, (wrap64 (((rd_T33 ((rd_T100 l0 0).f2.f0) a1).f2) - 1)) = j_ := ⟨_, rfl⟩
           replace H : (if 0 ≤ (ji15) then (if (ji15) < (((rd_T100 l0 0).f1).length : Int) then (some ((rd_T103 ((rd_T100 l0 0).f1) ((rd_T33 ((rd_T100 l0 0).f2.f0) a1).f1)).f1, (rd_T103 ((rd_T100 l0 0).f1) (ji15)).f2)) else (none)) else (none)) = some (r1, r2) := by first | (rw [hji15] at H; exact H) | (simp only [hji15] at H ⊢; exact H)
           have hji15w : (IntKind.i64.wrap (((rd_T33 ((rd_T100 l0 0).f2.f0) a1).f2) - 1)) = ji15 := (i64_w _).trans hji15
           by_cases c16 : 0 ≤ (ji15)
           ·rw [if_pos c16] at H
            have c16b0 : decide (0 ≤ (ji15)) = true := decide_eq_true c16
            clear c16
            by_cases c17 : (ji15) < (((rd_T100 l0 0).f1).length : Int)
            ·rw [if_pos c17] at H
             have c17b0 : decide ((ji15) < (((rd_T100 l0 0).f1).length : Int)) = true := decide_eq_true c17
             clear c17
             simp only [Option.some.injEq, Prod.mk.injEq] at H
             obtain ⟨rfl, rfl⟩ := H
             have p238 : 0 ≤ (0 : Int) := (by omega)
             have q238 : 0 < (l0.length : Int) := of_dec
             obtain ⟨ad238, A238_0, c238_0, A238_1, c238_1, A238_2, c238_2, e238, hx238_0, hx238_1, hx238_2, hl238_0, hi238_0, hl238_1, hi238_1, hl238_2, hi238_2⟩ := at_T100 HR0.out 0 p238 q238
             obtain rfl : ad235 = ad238 := (by injection e238)
             have qi238 : (0 < l0.length) = True := eq_true (by omega)
             (try rw [show ((0 : Int)).toNat = 0 from rfl] at hx238_0)
             (try rw [show 0 * 3 = 0 from rfl] at hx238_0)
             (try rw [Addr.add_zero'] at hx238_0)
             (try rw [show ((0 : Int)).toNat = 0 from rfl] at hx238_1)
             (try rw [show 0 * 3 = 0 from rfl] at hx238_1)
             (try rw [Addr.add_zero'] at hx238_1)
             (try rw [show ((0 : Int)).toNat = 0 from rfl] at hx238_2)
             (try rw [show 0 * 3 = 0 from rfl] at hx238_2)
             (try rw [Addr.add_zero'] at hx238_2)
             replace hx238_0 := cell_b HB.out hx238_0
             replace hx238_1 := cell_b HB.out hx238_1
             replace hx238_2 := cell_b HB.out hx238_2
             have HR238_0 := Aside0.mk hi238_0
             have HC238_0 := Aside0.mk hl238_0
             clear hi238_0 hl238_0
             have HR238_1 := Aside0.mk hi238_1
             have HC238_1 := Aside0.mk hl238_1
             clear hi238_1 hl238_1
             have HR238_2 := Aside0.mk hi238_2
             have HC238_2 := Aside0.mk hl238_2
             clear hi238_2 hl238_2
             replace p238 := eq_true p238
             replace q238 := eq_true q238
             have p239 : 0 ≤ (a1 : Int) := of_dec
             have q239 : a1 < (((rd_T100 l0 0).f2.f0).length : Int) := of_dec
             obtain ⟨ad239, A239_3, c239_3, e239, hx239_0, hx239_1, hx239_2, hx239_3, hl239_3, hi239_3⟩ := at_T33 HR238_2.out a1 p239 q239
             cases e239
             replace hx239_0 := cell_b HB.out hx239_0
             replace hx239_1 := cell_b HB.out hx239_1
             replace hx239_2 := cell_b HB.out hx239_2
             replace hx239_3 := cell_b HB.out hx239_3
             have HR239_3 := Aside0.mk hi239_3
             have HC239_3 := Aside0.mk hl239_3
             clear hi239_3 hl239_3
             replace p239 := eq_true p239
             replace q239 := eq_true q239
             try go_wp2_with (first | ((with_reducible refine gate_dst (N := 5) rfl ?_); (try (refine gate_guard (by rfl) ?_; dsimp only)); refine box_event ?hg (N := 5) ?hd (cs := #[.int .i64 0, .int .i64 0, .int .i64 0, .slice none 0 0]) (t := 33) ?hr ?_; (case hd => rfl); (case hg => rfl); (case hr => first | (go_simp; done) | (go_simp; rfl)); intro gb240 hg w18 hbox hb; have n0_ := Aside0.mk (blk_below (g := gb236) (o := .cells #[.int .i64 0, .int .i64 0] 105 (0, 0)) (go_k BK236.out) hb); have n1_ := Aside0.mk (below_step (go_b1 HB.out GE236.out) hb); have n2_ := Aside0.mk (hbox); have n3_ := Aside0.mk ((by rw [hg]; exact (below_size (go_b1 HB.out GE236.out)) : w.heap.size ≤ gb240)); have n4_ := n3_; have n5_ := Aside0.mk ((by rw [hg]; exact Nat.ne_of_lt (blk_lt (g := gb236) (o := .cells #[.int .i64 0, .int .i64 0] 105 (0, 0)) (go_k BK236.out)) : gb236 ≠ gb240)); have n6_ := Aside0.mk ((by rw [hg]; exact Nat.ne_of_gt (blk_lt (g := gb236) (o := .cells #[.int .i64 0, .int .i64 0] 105 (0, 0)) (go_k BK236.out)) : gb240 ≠ gb236)); clear BK236; clear HB; have BK236 := n0_; have HB := n1_; have BK240 := n2_; have GW240 := n3_; have GE240 := n4_; have NB236_240 := n5_; have NB240_236 := n6_; clear n0_ n1_ n2_ n3_ n4_ n5_ n6_; clear hb hbox hg; have hnb19 := NB240_236.out; have hnc19 := NB236_240.out; have hcz20_0 : w18.cell? ⟨gb240, 0, none⟩ = some (.int .i64 0) := (blk_cell BK240.out 0).trans rfl; have hcz20_1 : w18.cell? ⟨gb240, 1, none⟩ = some (.int .i64 0) := (blk_cell BK240.out 1).trans rfl; have hcz20_2 : w18.cell? ⟨gb240, 2, none⟩ = some (.int .i64 0) := (blk_cell BK240.out 2).trans rfl; have hcz20_3 : w18.cell? ⟨gb240, 3, none⟩ = some (.slice none 0 0) := (blk_cell BK240.out 3).trans rfl; have hfz20_0 := blk_frozen BK240.out 0; have hfz20_1 := blk_frozen BK240.out 1; have hfz20_2 := blk_frozen BK240.out 2; have hfz20_3 := blk_frozen BK240.out 3))
             have n0_ : Aside0 (((((w18.setCell ⟨gb240, 0, none⟩ (.int .i64 ((rd_T33 ((rd_T100 l0 0).f2.f0) a1).f0))).setCell ⟨gb240, 1, none⟩ (.int .i64 ((rd_T33 ((rd_T100 l0 0).f2.f0) a1).f1))).setCell ⟨gb240, 2, none⟩ (.int .i64 ((rd_T33 ((rd_T100 l0 0).f2.f0) a1).f2))).setCell ⟨gb240, 3, none⟩ (.slice A239_3 ((rd_T33 ((rd_T100 l0 0).f2.f0) a1).f3).length c239_3)).heap[gb236]? = some (.cells #[.int .i64 0, .int .i64 0] 105 (0, 0))) := ⟨by (with_reducible repeat (first | refine blk_drewN ?_ _ | refine blk_drew ?_ | refine blk_alloc ?_ _)); refine blk_far ?_ NB236_240.out _; refine blk_far ?_ NB236_240.out _; refine blk_far ?_ NB236_240.out _; refine blk_far ?_ NB236_240.out _; (with_reducible repeat (first | refine blk_drewN ?_ _ | refine blk_drew ?_ | refine blk_alloc ?_ _)); exact BK236.out⟩
             have n1_ : Aside0 (((((w18.setCell ⟨gb240, 0, none⟩ (.int .i64 ((rd_T33 ((rd_T100 l0 0).f2.f0) a1).f0))).setCell ⟨gb240, 1, none⟩ (.int .i64 ((rd_T33 ((rd_T100 l0 0).f2.f0) a1).f1))).setCell ⟨gb240, 2, none⟩ (.int .i64 ((rd_T33 ((rd_T100 l0 0).f2.f0) a1).f2))).setCell ⟨gb240, 3, none⟩ (.slice A239_3 ((rd_T33 ((rd_T100 l0 0).f2.f0) a1).f3).length c239_3)).heap[gb240]? = some (.cells #[.int .i64 ((rd_T33 ((rd_T100 l0 0).f2.f0) a1).f0), .int .i64 ((rd_T33 ((rd_T100 l0 0).f2.f0) a1).f1), .int .i64 ((rd_T33 ((rd_T100 l0 0).f2.f0) a1).f2), .slice A239_3 ((rd_T33 ((rd_T100 l0 0).f2.f0) a1).f3).length c239_3] 33 (0, 0))) := ⟨by (with_reducible repeat (first | refine blk_drewN ?_ _ | refine blk_drew ?_ | refine blk_alloc ?_ _)); refine blk_put (cs := #[.int .i64 ((rd_T33 ((rd_T100 l0 0).f2.f0) a1).f0), .int .i64 ((rd_T33 ((rd_T100 l0 0).f2.f0) a1).f1), .int .i64 ((rd_T33 ((rd_T100 l0 0).f2.f0) a1).f2), .slice none 0 0]) ?_ 3 _ rfl; refine blk_put (cs := #[.int .i64 ((rd_T33 ((rd_T100 l0 0).f2.f0) a1).f0), .int .i64 ((rd_T33 ((rd_T100 l0 0).f2.f0) a1).f1), .int .i64 0, .slice none 0 0]) ?_ 2 _ rfl; refine blk_put (cs := #[.int .i64 ((rd_T33 ((rd_T100 l0 0).f2.f0) a1).f0), .int .i64 0, .int .i64 0, .slice none 0 0]) ?_ 1 _ rfl; refine blk_put (cs := #[.int .i64 0, .int .i64 0, .int .i64 0, .slice none 0 0]) ?_ 0 _ rfl; (with_reducible repeat (first | refine blk_drewN ?_ _ | refine blk_drew ?_ | refine blk_alloc ?_ _)); exact BK240.out⟩
             have n2_ : Aside0 (Below w.heap.size w ((((w18.setCell ⟨gb240, 0, none⟩ (.int .i64 ((rd_T33 ((rd_T100 l0 0).f2.f0) a1).f0))).setCell ⟨gb240, 1, none⟩ (.int .i64 ((rd_T33 ((rd_T100 l0 0).f2.f0) a1).f1))).setCell ⟨gb240, 2, none⟩ (.int .i64 ((rd_T33 ((rd_T100 l0 0).f2.f0) a1).f2))).setCell ⟨gb240, 3, none⟩ (.slice A239_3 ((rd_T33 ((rd_T100 l0 0).f2.f0) a1).f3).length c239_3))) := ⟨by repeat (first | (with_reducible first | exact HB.out | apply below_alloc | apply pw_below_drewN | apply below_drew1 | refine below_set ?_ GE236.out | refine below_set ?_ GE240.out) | exact HB.out)⟩
             (try clear BK236)
             (try clear BK240)
             (try clear HB)
             generalize ((((w18.setCell ⟨gb240, 0, none⟩ (.int .i64 ((rd_T33 ((rd_T100 l0 0).f2.f0) a1).f0))).setCell ⟨gb240, 1, none⟩ (.int .i64 ((rd_T33 ((rd_T100 l0 0).f2.f0) a1).f1))).setCell ⟨gb240, 2, none⟩ (.int .i64 ((rd_T33 ((rd_T100 l0 0).f2.f0) a1).f2))).setCell ⟨gb240, 3, none⟩ (.slice A239_3 ((rd_T33 ((rd_T100 l0 0).f2.f0) a1).f3).length c239_3)) = w21 at n0_ n1_ n2_ ⊢
             have BK236 := n0_
             have BK240 := n1_
             have HB := n2_
             clear n0_ n1_ n2_
             have n0_ := Aside0.mk (blk_drew BK236.out)
             have n1_ := Aside0.mk (blk_drew BK240.out)
             have n2_ := Aside0.mk (below_drew1 HB.out)
             clear BK236
             clear BK240
             clear HB
             have BK236 := n0_
             have BK240 := n1_
             have HB := n2_
             clear n0_ n1_ n2_
             have p241 : 0 ≤ (0 : Int) := (by omega)
             have q241 : 0 < (l0.length : Int) := of_dec
             obtain ⟨ad241, A241_0, c241_0, A241_1, c241_1, A241_2, c241_2, e241, hx241_0, hx241_1, hx241_2, hl241_0, hi241_0, hl241_1, hi241_1, hl241_2, hi241_2⟩ := at_T100 HR0.out 0 p241 q241
             have hw241_2 := hx241_2
             (try rw [show ((0 : Int)).toNat = 0 from rfl] at hw241_2)
             (try rw [show 0 * 3 = 0 from rfl] at hw241_2)
             (try rw [Addr.add_zero'] at hw241_2)
             have hw241_1 := hx241_1
             (try rw [show ((0 : Int)).toNat = 0 from rfl] at hw241_1)
             (try rw [show 0 * 3 = 0 from rfl] at hw241_1)
             (try rw [Addr.add_zero'] at hw241_1)
             have hw241_0 := hx241_0
             (try rw [show ((0 : Int)).toNat = 0 from rfl] at hw241_0)
             (try rw [show 0 * 3 = 0 from rfl] at hw241_0)
             (try rw [Addr.add_zero'] at hw241_0)
             obtain rfl : ad235 = ad241 := (by injection e241)
             have qi241 : (0 < l0.length) = True := eq_true (by omega)
             (try rw [show ((0 : Int)).toNat = 0 from rfl] at hx241_0)
             (try rw [show 0 * 3 = 0 from rfl] at hx241_0)
             (try rw [Addr.add_zero'] at hx241_0)
             (try rw [show ((0 : Int)).toNat = 0 from rfl] at hx241_1)
             (try rw [show 0 * 3 = 0 from rfl] at hx241_1)
             (try rw [Addr.add_zero'] at hx241_1)
             (try rw [show ((0 : Int)).toNat = 0 from rfl] at hx241_2)
             (try rw [show 0 * 3 = 0 from rfl] at hx241_2)
             (try rw [Addr.add_zero'] at hx241_2)
             replace hx241_0 := cell_b HB.out hx241_0
             replace hx241_1 := cell_b HB.out hx241_1
             replace hx241_2 := cell_b HB.out hx241_2
             have HR241_0 := Aside0.mk hi241_0
             have HC241_0 := Aside0.mk hl241_0
             clear hi241_0 hl241_0
             have HR241_1 := Aside0.mk hi241_1
             have HC241_1 := Aside0.mk hl241_1
             clear hi241_1 hl241_1
             have HR241_2 := Aside0.mk hi241_2
             have HC241_2 := Aside0.mk hl241_2
             clear hi241_2 hl241_2
             replace p241 := eq_true p241
             replace q241 := eq_true q241
             have p242 : 0 ≤ (((rd_T33 ((rd_T100 l0 0).f2.f0) a1).f1) : Int) := of_dec
             have q242 : ((rd_T33 ((rd_T100 l0 0).f2.f0) a1).f1) < (((rd_T100 l0 0).f1).length : Int) := of_dec
             obtain ⟨ad242, e242, hx242_0, hx242_1, hx242_2, hx242_3, hx242_4⟩ := at_T103 HR241_1.out ((rd_T33 ((rd_T100 l0 0).f2.f0) a1).f1) p242 q242
             have hw242_4 := hx242_4
             have hw242_3 := hx242_3
             have hw242_2 := hx242_2
             have hw242_1 := hx242_1
             have hw242_0 := hx242_0
             cases e242
             replace hx242_0 := cell_b HB.out hx242_0
             replace hx242_1 := cell_b HB.out hx242_1
             replace hx242_2 := cell_b HB.out hx242_2
             replace hx242_3 := cell_b HB.out hx242_3
             replace hx242_4 := cell_b HB.out hx242_4
             replace p242 := eq_true p242
             replace q242 := eq_true q242
             have p243 : 0 ≤ (0 : Int) := (by omega)
             have q243 : 0 < (l0.length : Int) := of_dec
             obtain ⟨ad243, A243_0, c243_0, A243_1, c243_1, A243_2, c243_2, e243, hx243_0, hx243_1, hx243_2, hl243_0, hi243_0, hl243_1, hi243_1, hl243_2, hi243_2⟩ := at_T100 HR0.out 0 p243 q243
             have hw243_2 := hx243_2
             (try rw [show ((0 : Int)).toNat = 0 from rfl] at hw243_2)
             (try rw [show 0 * 3 = 0 from rfl] at hw243_2)
             (try rw [Addr.add_zero'] at hw243_2)
             have hw243_1 := hx243_1
             (try rw [show ((0 : Int)).toNat = 0 from rfl] at hw243_1)
             (try rw [show 0 * 3 = 0 from rfl] at hw243_1)
             (try rw [Addr.add_zero'] at hw243_1)
             have hw243_0 := hx243_0
             (try rw [show ((0 : Int)).toNat = 0 from rfl] at hw243_0)
             (try rw [show 0 * 3 = 0 from rfl] at hw243_0)
             (try rw [Addr.add_zero'] at hw243_0)
             obtain rfl : ad235 = ad243 := (by injection e243)
             have qi243 : (0 < l0.length) = True := eq_true (by omega)
             (try rw [show ((0 : Int)).toNat = 0 from rfl] at hx243_0)
             (try rw [show 0 * 3 = 0 from rfl] at hx243_0)
             (try rw [Addr.add_zero'] at hx243_0)
             (try rw [show ((0 : Int)).toNat = 0 from rfl] at hx243_1)
             (try rw [show 0 * 3 = 0 from rfl] at hx243_1)
             (try rw [Addr.add_zero'] at hx243_1)
             (try rw [show ((0 : Int)).toNat = 0 from rfl] at hx243_2)
             (try rw [show 0 * 3 = 0 from rfl] at hx243_2)
             (try rw [Addr.add_zero'] at hx243_2)
             replace hx243_0 := cell_b HB.out hx243_0
             replace hx243_1 := cell_b HB.out hx243_1
             replace hx243_2 := cell_b HB.out hx243_2
             have HR243_0 := Aside0.mk hi243_0
             have HC243_0 := Aside0.mk hl243_0
             clear hi243_0 hl243_0
             have HR243_1 := Aside0.mk hi243_1
             have HC243_1 := Aside0.mk hl243_1
             clear hi243_1 hl243_1
             have HR243_2 := Aside0.mk hi243_2
             have HC243_2 := Aside0.mk hl243_2
             clear hi243_2 hl243_2
             replace p243 := eq_true p243
             replace q243 := eq_true q243
             have ea_ := Option.some.inj (hx241_0.symm.trans hx243_0)
             injection ea_ with ea_ en_ ec_
             subst ea_
             subst ec_
             clear en_
             have ea_ := Option.some.inj (hx241_1.symm.trans hx243_1)
             injection ea_ with ea_ en_ ec_
             subst ea_
             subst ec_
             clear en_
             have ea_ := Option.some.inj (hx241_2.symm.trans hx243_2)
             injection ea_ with ea_ en_ ec_
             subst ea_
             subst ec_
             clear en_
             have p244 : 0 ≤ ((ji15) : Int) := of_dec
             have q244 : (ji15) < (((rd_T100 l0 0).f1).length : Int) := of_dec
             obtain ⟨ad244, e244, hx244_0, hx244_1, hx244_2, hx244_3, hx244_4⟩ := at_T103 HR243_1.out (ji15) p244 q244
             have hw244_4 := hx244_4
             have hw244_3 := hx244_3
             have hw244_2 := hx244_2
             have hw244_1 := hx244_1
             have hw244_0 := hx244_0
             obtain rfl : ad242 = ad244 := (by injection e244)
             replace hx244_0 := cell_b HB.out hx244_0
             replace hx244_1 := cell_b HB.out hx244_1
             replace hx244_2 := cell_b HB.out hx244_2
             replace hx244_3 := cell_b HB.out hx244_3
             replace hx244_4 := cell_b HB.out hx244_4
             replace p244 := eq_true p244
             replace q244 := eq_true q244
             refine start_ (n := 21) (S := fun w' => w'.cell? ⟨gb240, 0, none⟩ = some (.int .i64 ((rd_T33 ((rd_T100 l0 0).f2.f0) a1).f0)) ∧ w'.cell? ⟨gb240, 1, none⟩ = some (.int .i64 ((rd_T33 ((rd_T100 l0 0).f2.f0) a1).f1)) ∧ w'.cell? ⟨gb240, 2, none⟩ = some (.int .i64 ((rd_T33 ((rd_T100 l0 0).f2.f0) a1).f2)) ∧ w'.cell? ⟨gb240, 3, none⟩ = some (.slice A239_3 ((rd_T33 ((rd_T100 l0 0).f2.f0) a1).f3).length c239_3) ∧ w'.cell? ad235 = some (.slice A241_0 ((rd_T100 l0 0).f0).length c241_0) ∧ w'.cell? ⟨ad235.block, ad235.off + 1, none⟩ = some (.slice (some ad242) ((rd_T100 l0 0).f1).length c241_1) ∧ w'.cell? ⟨ad235.block, ad235.off + 2, none⟩ = some (.slice A241_2 ((rd_T100 l0 0).f2.f0).length c241_2) ∧ w'.cell? (ad242.add ((((rd_T33 ((rd_T100 l0 0).f2.f0) a1).f1)).toNat * 5)) = some (.int .i64 ((rd_T103 ((rd_T100 l0 0).f1) ((rd_T33 ((rd_T100 l0 0).f2.f0) a1).f1)).f0)) ∧ w'.cell? ⟨(ad242.add ((((rd_T33 ((rd_T100 l0 0).f2.f0) a1).f1)).toNat * 5)).block, (ad242.add ((((rd_T33 ((rd_T100 l0 0).f2.f0) a1).f1)).toNat * 5)).off + 1, none⟩ = some (.int .i64 ((rd_T103 ((rd_T100 l0 0).f1) ((rd_T33 ((rd_T100 l0 0).f2.f0) a1).f1)).f1)) ∧ w'.cell? ⟨(ad242.add ((((rd_T33 ((rd_T100 l0 0).f2.f0) a1).f1)).toNat * 5)).block, (ad242.add ((((rd_T33 ((rd_T100 l0 0).f2.f0) a1).f1)).toNat * 5)).off + 2, none⟩ = some (.int .i64 ((rd_T103 ((rd_T100 l0 0).f1) ((rd_T33 ((rd_T100 l0 0).f2.f0) a1).f1)).f2)) ∧ w'.cell? ⟨(ad242.add ((((rd_T33 ((rd_T100 l0 0).f2.f0) a1).f1)).toNat * 5)).block, (ad242.add ((((rd_T33 ((rd_T100 l0 0).f2.f0) a1).f1)).toNat * 5)).off + 3, none⟩ = some (.bool ((rd_T103 ((rd_T100 l0 0).f1) ((rd_T33 ((rd_T100 l0 0).f2.f0) a1).f1)).f3)) ∧ w'.cell? ⟨(ad242.add ((((rd_T33 ((rd_T100 l0 0).f2.f0) a1).f1)).toNat * 5)).block, (ad242.add ((((rd_T33 ((rd_T100 l0 0).f2.f0) a1).f1)).toNat * 5)).off + 4, none⟩ = some (.int .i64 ((rd_T103 ((rd_T100 l0 0).f1) ((rd_T33 ((rd_T100 l0 0).f2.f0) a1).f1)).f4)) ∧ w'.cell? ad235 = some (.slice A241_0 ((rd_T100 l0 0).f0).length c241_0) ∧ w'.cell? ⟨ad235.block, ad235.off + 1, none⟩ = some (.slice (some ad242) ((rd_T100 l0 0).f1).length c241_1) ∧ w'.cell? ⟨ad235.block, ad235.off + 2, none⟩ = some (.slice A241_2 ((rd_T100 l0 0).f2.f0).length c241_2) ∧ w'.cell? (ad242.add (((ji15)).toNat * 5)) = some (.int .i64 ((rd_T103 ((rd_T100 l0 0).f1) (ji15)).f0)) ∧ w'.cell? ⟨(ad242.add (((ji15)).toNat * 5)).block, (ad242.add (((ji15)).toNat * 5)).off + 1, none⟩ = some (.int .i64 ((rd_T103 ((rd_T100 l0 0).f1) (ji15)).f1)) ∧ w'.cell? ⟨(ad242.add (((ji15)).toNat * 5)).block, (ad242.add (((ji15)).toNat * 5)).off + 2, none⟩ = some (.int .i64 ((rd_T103 ((rd_T100 l0 0).f1) (ji15)).f2)) ∧ w'.cell? ⟨(ad242.add (((ji15)).toNat * 5)).block, (ad242.add (((ji15)).toNat * 5)).off + 3, none⟩ = some (.bool ((rd_T103 ((rd_T100 l0 0).f1) (ji15)).f3)) ∧ w'.cell? ⟨(ad242.add (((ji15)).toNat * 5)).block, (ad242.add (((ji15)).toNat * 5)).off + 4, none⟩ = some (.int .i64 ((rd_T103 ((rd_T100 l0 0).f1) (ji15)).f4))) (ds := []) #[false, false, false, false, false, false, false, false, false, false, false, false, false, false, false, false, false, false, false, false, false] (by kernel_rfl) rfl rfl ⟨(blk_cell BK240.out 0).trans rfl, (blk_cell BK240.out 1).trans rfl, (blk_cell BK240.out 2).trans rfl, (blk_cell BK240.out 3).trans rfl, (cell_b HB.out hw241_0), (cell_b HB.out hw241_1), (cell_b HB.out hw241_2), (cell_b HB.out hw242_0), (cell_b HB.out hw242_1), (cell_b HB.out hw242_2), (cell_b HB.out hw242_3), (cell_b HB.out hw242_4), (cell_b HB.out hw243_0), (cell_b HB.out hw243_1), (cell_b HB.out hw243_2), (cell_b HB.out hw244_0), (cell_b HB.out hw244_1), (cell_b HB.out hw244_2), (cell_b HB.out hw244_3), (cell_b HB.out hw244_4)⟩ (fun hHeld => ?_); refine with_tabW view_File_Span.tab5 view_File_Span.bits5 (fun HT_ HW_ => ?_)
             generalize w21.drew = w22 at BK236 BK240 HB HR241_0 HR241_1 HR241_2 HR243_0 HR243_1 HR243_2 hx241_0 hx241_1 hx241_2 hx242_0 hx242_1 hx242_2 hx242_3 hx242_4 hx243_0 hx243_1 hx243_2 hx244_0 hx244_1 hx244_2 hx244_3 hx244_4 hHeld ⊢
             refine pure_ (i := 0) (N := some 38) (v := ?_) (a' := ?_) (bl_ 21 1) rfl rfl (any_of HT_.out (by kernel_rfl)) (fun _ _ _ h => h) (Or.inl ⟨by rfl, ?_⟩) ?_ ?_; rotate_left; { intro w'; go_simp; with_reducible rfl }; rotate_left; { simp only [Act.put, List.setIfInBounds_toArray, List.set_cons_zero, List.set_cons_succ, i64_w, i32_w]; rfl }
             refine pure_ (i := 1) (N := some 39) (v := ?_) (a' := ?_) (bl_ 21 3) rfl rfl (any_of HT_.out (by kernel_rfl)) (fun _ _ _ h => h) (Or.inl ⟨by rfl, ?_⟩) ?_ ?_; rotate_left; { intro w'; go_simp; with_reducible rfl }; rotate_left; { simp only [Act.put, List.setIfInBounds_toArray, List.set_cons_zero, List.set_cons_succ, i64_w, i32_w]; rfl }
             refine pure_ (i := 2) (N := some 40) (v := ?_) (a' := ?_) (bl_ 21 7) rfl rfl (any_of HT_.out (by kernel_rfl)) (fun _ _ _ h => h) (Or.inl ⟨by rfl, ?_⟩) ?_ ?_; rotate_left; { intro w'; go_simp; with_reducible rfl }; rotate_left; { simp only [Act.put, List.setIfInBounds_toArray, List.set_cons_zero, List.set_cons_succ, i64_w, i32_w]; rfl }
             refine pure_ (i := 4) (N := some 42) (v := ?_) (a' := ?_) (bl_ 21 23) rfl rfl (any_of HT_.out (by kernel_rfl)) (fun _ _ _ h => h) (Or.inl ⟨by rfl, ?_⟩) ?_ ?_; rotate_left; { intro w'; go_simp; with_reducible rfl }; rotate_left; { simp only [Act.put, List.setIfInBounds_toArray, List.set_cons_zero, List.set_cons_succ, i64_w, i32_w]; rfl }
             refine pure_ (i := 9) (N := some 47) (v := ?_) (a' := ?_) (bl_ 21 535) rfl rfl (any_of HT_.out (by kernel_rfl)) (fun _ _ _ h => h) (Or.inl ⟨by rfl, ?_⟩) ?_ ?_; rotate_left; { intro w'; go_simp; with_reducible rfl }; rotate_left; { simp only [Act.put, List.setIfInBounds_toArray, List.set_cons_zero, List.set_cons_succ, i64_w, i32_w]; rfl }
             refine pure_ (i := 10) (N := some 48) (v := ?_) (a' := ?_) (bl_ 21 1559) rfl rfl (any_of HT_.out (by kernel_rfl)) (fun _ _ _ h => h) (Or.inl ⟨by rfl, ?_⟩) ?_ ?_; rotate_left; { intro w'; go_simp; with_reducible rfl }; rotate_left; { simp only [Act.put, List.setIfInBounds_toArray, List.set_cons_zero, List.set_cons_succ, i64_w, i32_w]; rfl }
             refine pure_ (i := 11) (N := some 49) (v := ?_) (a' := ?_) (bl_ 21 3607) rfl rfl (any_of HT_.out (by kernel_rfl)) (fun _ _ _ h => h) (Or.inl ⟨by rfl, ?_⟩) ?_ ?_; rotate_left; { intro w'; go_simp; with_reducible rfl }; rotate_left; { simp only [Act.put, List.setIfInBounds_toArray, List.set_cons_zero, List.set_cons_succ, i64_w, i32_w]; rfl }
             refine pure_ (i := 13) (N := some 51) (v := ?_) (a' := ?_) (bl_ 21 11799) rfl rfl (any_of HT_.out (by kernel_rfl)) (fun _ _ _ h => h) (Or.inl ⟨by rfl, ?_⟩) ?_ ?_; rotate_left; { intro w'; go_simp; with_reducible rfl }; rotate_left; { simp only [Act.put, List.setIfInBounds_toArray, List.set_cons_zero, List.set_cons_succ, i64_w, i32_w]; rfl }
             refine take_ (i := 3) (N := some 41) (v := ?_) (a' := ?_) (bl_ 21 11807) rfl rfl (take_ofW HT_.out HW_.out (by kernel_rfl)) (fun _ _ _ h => h) (Or.inl ⟨by rfl, ?_⟩) hHeld ?_ ?_; rotate_left; { rintro w' ⟨s0, s1, s2, s3, s4, s5, s6, s7, s8, s9, s10, s11, s12, s13, s14, s15, s16, s17, s18, s19⟩; go_simp; with_reducible rfl }; rotate_left; { simp only [Act.put, List.setIfInBounds_toArray, List.set_cons_zero, List.set_cons_succ, i64_w, i32_w]; rfl }
             refine take_ (i := 5) (N := some 43) (v := ?_) (a' := ?_) (bl_ 21 11839) rfl rfl (take_ofW HT_.out HW_.out (by kernel_rfl)) (fun _ _ _ h => h) (Or.inl ⟨by rfl, ?_⟩) hHeld ?_ ?_; rotate_left; { rintro w' ⟨s0, s1, s2, s3, s4, s5, s6, s7, s8, s9, s10, s11, s12, s13, s14, s15, s16, s17, s18, s19⟩; go_simp; with_reducible rfl }; rotate_left; { simp only [Act.put, List.setIfInBounds_toArray, List.set_cons_zero, List.set_cons_succ, i64_w, i32_w]; rfl }
             refine pure_ (i := 6) (N := some 44) (v := ?_) (a' := ?_) (bl_ 21 11903) rfl rfl (any_of HT_.out (by kernel_rfl)) (fun _ _ _ h => h) (Or.inl ⟨by rfl, ?_⟩) ?_ ?_; rotate_left; { intro w'; go_simp; with_reducible rfl }; rotate_left; { simp only [Act.put, List.setIfInBounds_toArray, List.set_cons_zero, List.set_cons_succ, i64_w, i32_w]; rfl }
             refine pure_ (i := 7) (N := some 45) (v := ?_) (a' := ?_) (bl_ 21 12031) rfl rfl (any_of HT_.out (by kernel_rfl)) (fun _ _ _ h => h) (Or.inl ⟨by rfl, ?_⟩) ?_ ?_; rotate_left; { intro w'; go_simp; with_reducible rfl }; rotate_left; { simp only [Act.put, List.setIfInBounds_toArray, List.set_cons_zero, List.set_cons_succ, i64_w, i32_w]; rfl }
             refine take_ (i := 8) (N := some 46) (v := ?_) (a' := ?_) (bl_ 21 12287) rfl rfl (take_ofW HT_.out HW_.out (by kernel_rfl)) (fun _ _ _ h => h) (Or.inl ⟨by rfl, ?_⟩) hHeld ?_ ?_; rotate_left; { rintro w' ⟨s0, s1, s2, s3, s4, s5, s6, s7, s8, s9, s10, s11, s12, s13, s14, s15, s16, s17, s18, s19⟩; go_simp; with_reducible rfl }; rotate_left; { simp only [Act.put, List.setIfInBounds_toArray, List.set_cons_zero, List.set_cons_succ, i64_w, i32_w]; rfl }
             refine take_ (i := 12) (N := some 50) (v := ?_) (a' := ?_) (bl_ 21 16383) rfl rfl (take_ofW HT_.out HW_.out (by kernel_rfl)) (fun _ _ _ h => h) (Or.inl ⟨by rfl, ?_⟩) hHeld ?_ ?_; rotate_left; { rintro w' ⟨s0, s1, s2, s3, s4, s5, s6, s7, s8, s9, s10, s11, s12, s13, s14, s15, s16, s17, s18, s19⟩; go_simp; with_reducible rfl }; rotate_left; { simp only [Act.put, List.setIfInBounds_toArray, List.set_cons_zero, List.set_cons_succ, i64_w, i32_w]; rfl }
             refine take_ (i := 14) (N := some 52) (v := ?_) (a' := ?_) (bl_ 21 32767) rfl rfl (take_ofW HT_.out HW_.out (by kernel_rfl)) (fun _ _ _ h => h) (Or.inl ⟨by rfl, ?_⟩) hHeld ?_ ?_; rotate_left; { rintro w' ⟨s0, s1, s2, s3, s4, s5, s6, s7, s8, s9, s10, s11, s12, s13, s14, s15, s16, s17, s18, s19⟩; go_simp; with_reducible rfl }; rotate_left; { simp only [Act.put, List.setIfInBounds_toArray, List.set_cons_zero, List.set_cons_succ, i64_w, i32_w]; rfl }
             refine pure_ (i := 15) (N := some 53) (v := ?_) (a' := ?_) (bl_ 21 65535) rfl rfl (any_of HT_.out (by kernel_rfl)) (fun _ _ _ h => h) (Or.inl ⟨by rfl, ?_⟩) ?_ ?_; rotate_left; { intro w'; go_simp; with_reducible rfl }; rotate_left; { simp only [Act.put, List.setIfInBounds_toArray, List.set_cons_zero, List.set_cons_succ, i64_w, i32_w]; rfl }
             refine pure_ (i := 16) (N := some 54) (v := ?_) (a' := ?_) (bl_ 21 131071) rfl rfl (any_of HT_.out (by kernel_rfl)) (fun _ _ _ h => h) (Or.inl ⟨by rfl, ?_⟩) ?_ ?_; rotate_left; { intro w'; go_simp; with_reducible rfl }; rotate_left; { simp only [Act.put, List.setIfInBounds_toArray, List.set_cons_zero, List.set_cons_succ, i64_w, i32_w]; rfl }
             refine pure_ (i := 17) (N := some 55) (v := ?_) (a' := ?_) (bl_ 21 262143) rfl rfl (any_of HT_.out (by kernel_rfl)) (fun _ _ _ h => h) (Or.inl ⟨by rfl, ?_⟩) ?_ ?_; rotate_left; { intro w'; go_simp; with_reducible rfl }; rotate_left; { simp only [Act.put, List.setIfInBounds_toArray, List.set_cons_zero, List.set_cons_succ, i64_w, i32_w]; rfl }
             refine take_ (i := 18) (N := some 56) (v := ?_) (a' := ?_) (bl_ 21 524287) rfl rfl (take_ofW HT_.out HW_.out (by kernel_rfl)) (fun _ _ _ h => h) (Or.inl ⟨by rfl, ?_⟩) hHeld ?_ ?_; rotate_left; { rintro w' ⟨s0, s1, s2, s3, s4, s5, s6, s7, s8, s9, s10, s11, s12, s13, s14, s15, s16, s17, s18, s19⟩; go_simp; with_reducible rfl }; rotate_left; { simp only [Act.put, List.setIfInBounds_toArray, List.set_cons_zero, List.set_cons_succ, i64_w, i32_w]; rfl }
             refine pure_ (i := 19) (N := some 57) (v := ?_) (a' := ?_) (bl_ 21 1048575) rfl rfl (any_of HT_.out (by kernel_rfl)) (fun _ _ _ h => h) (Or.inl ⟨by rfl, ?_⟩) ?_ ?_; rotate_left; { intro w'; go_simp; with_reducible rfl }; rotate_left; { simp only [Act.put, List.setIfInBounds_toArray, List.set_cons_zero, List.set_cons_succ, i64_w, i32_w]; rfl }
             refine one_ (i := 20) (N := none) (bl_ 21 2097151) rfl rfl (one_of HT_.out (by kernel_rfl)) (by decide) (fun K hK => ?_)
             have hs23 : w22.cell? ⟨gb236, 0, none⟩ = some (.int .i64 0) := (blk_cell BK236.out 0).trans rfl
             have hfs23 := blk_frozen BK236.out 0
             have hns23_1 := NB240_236.out
             have hms23_1 := NB236_240.out
             have hs24 : w22.cell? ⟨gb236, 1, none⟩ = some (.int .i64 0) := (blk_cell BK236.out 1).trans rfl
             have hfs24 := blk_frozen BK236.out 1
             have hns24_1 := NB240_236.out
             have hms24_1 := NB236_240.out
             refine skip_ (w1 := ?_) (by rfl) rfl ?_ ?_; rotate_left; { go_simp; rfl }
             refine hK.out _ _ ⟨((cell_far (p := ⟨gb236, _, none⟩) NB240_236.out _).trans (((cell_far (p := ⟨gb236, _, none⟩) NB240_236.out _).trans (hHeld.1)))), ((cell_far (p := ⟨gb236, _, none⟩) NB240_236.out _).trans (((cell_far (p := ⟨gb236, _, none⟩) NB240_236.out _).trans (hHeld.2.1)))), ((cell_far (p := ⟨gb236, _, none⟩) NB240_236.out _).trans (((cell_far (p := ⟨gb236, _, none⟩) NB240_236.out _).trans (hHeld.2.2.1)))), ((cell_far (p := ⟨gb236, _, none⟩) NB240_236.out _).trans (((cell_far (p := ⟨gb236, _, none⟩) NB240_236.out _).trans (hHeld.2.2.2.1)))), ((far_c hw241_0 GW236.out).trans (((far_c hw241_0 GW236.out).trans (hHeld.2.2.2.2.1)))), ((far_c hw241_1 GW236.out).trans (((far_c hw241_1 GW236.out).trans (hHeld.2.2.2.2.2.1)))), ((far_c hw241_2 GW236.out).trans (((far_c hw241_2 GW236.out).trans (hHeld.2.2.2.2.2.2.1)))), ((far_c hw242_0 GW236.out).trans (((far_c hw242_0 GW236.out).trans (hHeld.2.2.2.2.2.2.2.1)))), ((far_c hw242_1 GW236.out).trans (((far_c hw242_1 GW236.out).trans (hHeld.2.2.2.2.2.2.2.2.1)))), ((far_c hw242_2 GW236.out).trans (((far_c hw242_2 GW236.out).trans (hHeld.2.2.2.2.2.2.2.2.2.1)))), ((far_c hw242_3 GW236.out).trans (((far_c hw242_3 GW236.out).trans (hHeld.2.2.2.2.2.2.2.2.2.2.1)))), ((far_c hw242_4 GW236.out).trans (((far_c hw242_4 GW236.out).trans (hHeld.2.2.2.2.2.2.2.2.2.2.2.1)))), ((far_c hw243_0 GW236.out).trans (((far_c hw243_0 GW236.out).trans (hHeld.2.2.2.2.2.2.2.2.2.2.2.2.1)))), ((far_c hw243_1 GW236.out).trans (((far_c hw243_1 GW236.out).trans (hHeld.2.2.2.2.2.2.2.2.2.2.2.2.2.1)))), ((far_c hw243_2 GW236.out).trans (((far_c hw243_2 GW236.out).trans (hHeld.2.2.2.2.2.2.2.2.2.2.2.2.2.2.1)))), ((far_c hw244_0 GW236.out).trans (((far_c hw244_0 GW236.out).trans (hHeld.2.2.2.2.2.2.2.2.2.2.2.2.2.2.2.1)))), ((far_c hw244_1 GW236.out).trans (((far_c hw244_1 GW236.out).trans (hHeld.2.2.2.2.2.2.2.2.2.2.2.2.2.2.2.2.1)))), ((far_c hw244_2 GW236.out).trans (((far_c hw244_2 GW236.out).trans (hHeld.2.2.2.2.2.2.2.2.2.2.2.2.2.2.2.2.2.1)))), ((far_c hw244_3 GW236.out).trans (((far_c hw244_3 GW236.out).trans (hHeld.2.2.2.2.2.2.2.2.2.2.2.2.2.2.2.2.2.2.1)))), ((far_c hw244_4 GW236.out).trans (((far_c hw244_4 GW236.out).trans (hHeld.2.2.2.2.2.2.2.2.2.2.2.2.2.2.2.2.2.2.2))))⟩ (fun hHeld => ?_)
             clear hK K
             refine done_ (done_of HT_.out (by kernel_rfl)) ?_
             try go_wp2
             refine bodyPost_ret (results_cell_row rfl _ _ gb236 105 #[.int .i64 ((rd_T103 ((rd_T100 l0 0).f1) ((rd_T33 ((rd_T100 l0 0).f2.f0) a1).f1)).f1), .int .i64 ((rd_T103 ((rd_T100 l0 0).f1) (ji15)).f2)] (0, 0) _ rfl (by (with_reducible repeat (first | refine blk_drewN ?_ _ | refine blk_drew ?_ | refine blk_alloc ?_ _)); refine blk_put (cs := #[.int .i64 ((rd_T103 ((rd_T100 l0 0).f1) ((rd_T33 ((rd_T100 l0 0).f2.f0) a1).f1)).f1), .int .i64 0]) ?_ 1 _ rfl; refine blk_put (cs := #[.int .i64 0, .int .i64 0]) ?_ 0 _ rfl; (with_reducible repeat (first | refine blk_drewN ?_ _ | refine blk_drew ?_ | refine blk_alloc ?_ _)); exact BK236.out) Tryd.underlying105 rfl (by kernel_rfl)) rfl ?_
             exact ⟨by first | rfl | (simp [errW_none, errW_some, erT_no, erV_no, erT_at, erV_at] <;> rfl) | (simp only [← hji15]; first | rfl | (simp [errW_none, errW_some, erT_no, erV_no, erT_at, erV_at] <;> rfl)) | (simp [*, errW_none, errW_some, erT_no, erV_no, erT_at, erV_at] <;> rfl), by repeat (first | (with_reducible first | exact HB.out | apply below_alloc | apply pw_below_drewN | apply below_drew1 | refine below_set ?_ GE236.out | refine below_set ?_ GE240.out) | exact HB.out)⟩
            ·rw [if_neg c17] at H
             exact absurd H (by simp)
           ·rw [if_neg c16] at H
            exact absurd H (by simp)
          ·rw [if_neg c14] at H
           exact absurd H (by simp)
         ·rw [if_neg c13] at H
          exact absurd H (by simp)
        ·rw [if_neg c12] at H
         have c12b0 : decide (((rd_T33 ((rd_T100 l0 0).f2.f0) a1).f1) < ((rd_T33 ((rd_T100 l0 0).f2.f0) a1).f2)) = false := decide_eq_false c12
         clear c12
         by_cases c25 : ((rd_T33 ((rd_T100 l0 0).f2.f0) a1).f1) < (((rd_T100 l0 0).f1).length : Int)
         ·rw [if_pos c25] at H
          have c25b0 : decide (((rd_T33 ((rd_T100 l0 0).f2.f0) a1).f1) < (((rd_T100 l0 0).f1).length : Int)) = true := decide_eq_true c25
          clear c25
          by_cases c26 : 0 ≤ ((rd_T33 ((rd_T100 l0 0).f2.f0) a1).f1)
          ·rw [if_pos c26] at H
           have c26b0 : decide (0 ≤ ((rd_T33 ((rd_T100 l0 0).f2.f0) a1).f1)) = true := decide_eq_true c26
           clear c26
           simp only [Option.some.injEq, Prod.mk.injEq] at H
           obtain ⟨rfl, rfl⟩ := H
           have p238 : 0 ≤ (0 : Int) := (by omega)
           have q238 : 0 < (l0.length : Int) := of_dec
           obtain ⟨ad238, A238_0, c238_0, A238_1, c238_1, A238_2, c238_2, e238, hx238_0, hx238_1, hx238_2, hl238_0, hi238_0, hl238_1, hi238_1, hl238_2, hi238_2⟩ := at_T100 HR0.out 0 p238 q238
           obtain rfl : ad235 = ad238 := (by injection e238)
           have qi238 : (0 < l0.length) = True := eq_true (by omega)
           (try rw [show ((0 : Int)).toNat = 0 from rfl] at hx238_0)
           (try rw [show 0 * 3 = 0 from rfl] at hx238_0)
           (try rw [Addr.add_zero'] at hx238_0)
           (try rw [show ((0 : Int)).toNat = 0 from rfl] at hx238_1)
           (try rw [show 0 * 3 = 0 from rfl] at hx238_1)
           (try rw [Addr.add_zero'] at hx238_1)
           (try rw [show ((0 : Int)).toNat = 0 from rfl] at hx238_2)
           (try rw [show 0 * 3 = 0 from rfl] at hx238_2)
           (try rw [Addr.add_zero'] at hx238_2)
           replace hx238_0 := cell_b HB.out hx238_0
           replace hx238_1 := cell_b HB.out hx238_1
           replace hx238_2 := cell_b HB.out hx238_2
           have HR238_0 := Aside0.mk hi238_0
           have HC238_0 := Aside0.mk hl238_0
           clear hi238_0 hl238_0
           have HR238_1 := Aside0.mk hi238_1
           have HC238_1 := Aside0.mk hl238_1
           clear hi238_1 hl238_1
           have HR238_2 := Aside0.mk hi238_2
           have HC238_2 := Aside0.mk hl238_2
           clear hi238_2 hl238_2
           replace p238 := eq_true p238
           replace q238 := eq_true q238
           have p239 : 0 ≤ (a1 : Int) := of_dec
           have q239 : a1 < (((rd_T100 l0 0).f2.f0).length : Int) := of_dec
           obtain ⟨ad239, A239_3, c239_3, e239, hx239_0, hx239_1, hx239_2, hx239_3, hl239_3, hi239_3⟩ := at_T33 HR238_2.out a1 p239 q239
           cases e239
           replace hx239_0 := cell_b HB.out hx239_0
           replace hx239_1 := cell_b HB.out hx239_1
           replace hx239_2 := cell_b HB.out hx239_2
           replace hx239_3 := cell_b HB.out hx239_3
           have HR239_3 := Aside0.mk hi239_3
           have HC239_3 := Aside0.mk hl239_3
           clear hi239_3 hl239_3
           replace p239 := eq_true p239
           replace q239 := eq_true q239
           try go_wp2_with (first | ((with_reducible refine gate_dst (N := 5) rfl ?_); (try (refine gate_guard (by rfl) ?_; dsimp only)); refine box_event ?hg (N := 5) ?hd (cs := #[.int .i64 0, .int .i64 0, .int .i64 0, .slice none 0 0]) (t := 33) ?hr ?_; (case hd => rfl); (case hg => rfl); (case hr => first | (go_simp; done) | (go_simp; rfl)); intro gb240 hg w27 hbox hb; have n0_ := Aside0.mk (blk_below (g := gb236) (o := .cells #[.int .i64 0, .int .i64 0] 105 (0, 0)) (go_k BK236.out) hb); have n1_ := Aside0.mk (below_step (go_b1 HB.out GE236.out) hb); have n2_ := Aside0.mk (hbox); have n3_ := Aside0.mk ((by rw [hg]; exact (below_size (go_b1 HB.out GE236.out)) : w.heap.size ≤ gb240)); have n4_ := n3_; have n5_ := Aside0.mk ((by rw [hg]; exact Nat.ne_of_lt (blk_lt (g := gb236) (o := .cells #[.int .i64 0, .int .i64 0] 105 (0, 0)) (go_k BK236.out)) : gb236 ≠ gb240)); have n6_ := Aside0.mk ((by rw [hg]; exact Nat.ne_of_gt (blk_lt (g := gb236) (o := .cells #[.int .i64 0, .int .i64 0] 105 (0, 0)) (go_k BK236.out)) : gb240 ≠ gb236)); clear BK236; clear HB; have BK236 := n0_; have HB := n1_; have BK240 := n2_; have GW240 := n3_; have GE240 := n4_; have NB236_240 := n5_; have NB240_236 := n6_; clear n0_ n1_ n2_ n3_ n4_ n5_ n6_; clear hb hbox hg; have hnb28 := NB240_236.out; have hnc28 := NB236_240.out; have hcz29_0 : w27.cell? ⟨gb240, 0, none⟩ = some (.int .i64 0) := (blk_cell BK240.out 0).trans rfl; have hcz29_1 : w27.cell? ⟨gb240, 1, none⟩ = some (.int .i64 0) := (blk_cell BK240.out 1).trans rfl; have hcz29_2 : w27.cell? ⟨gb240, 2, none⟩ = some (.int .i64 0) := (blk_cell BK240.out 2).trans rfl; have hcz29_3 : w27.cell? ⟨gb240, 3, none⟩ = some (.slice none 0 0) := (blk_cell BK240.out 3).trans rfl; have hfz29_0 := blk_frozen BK240.out 0; have hfz29_1 := blk_frozen BK240.out 1; have hfz29_2 := blk_frozen BK240.out 2; have hfz29_3 := blk_frozen BK240.out 3))
           have n0_ : Aside0 (((((w27.setCell ⟨gb240, 0, none⟩ (.int .i64 ((rd_T33 ((rd_T100 l0 0).f2.f0) a1).f0))).setCell ⟨gb240, 1, none⟩ (.int .i64 ((rd_T33 ((rd_T100 l0 0).f2.f0) a1).f1))).setCell ⟨gb240, 2, none⟩ (.int .i64 ((rd_T33 ((rd_T100 l0 0).f2.f0) a1).f2))).setCell ⟨gb240, 3, none⟩ (.slice A239_3 ((rd_T33 ((rd_T100 l0 0).f2.f0) a1).f3).length c239_3)).heap[gb236]? = some (.cells #[.int .i64 0, .int .i64 0] 105 (0, 0))) := ⟨by (with_reducible repeat (first | refine blk_drewN ?_ _ | refine blk_drew ?_ | refine blk_alloc ?_ _)); refine blk_far ?_ NB236_240.out _; refine blk_far ?_ NB236_240.out _; refine blk_far ?_ NB236_240.out _; refine blk_far ?_ NB236_240.out _; (with_reducible repeat (first | refine blk_drewN ?_ _ | refine blk_drew ?_ | refine blk_alloc ?_ _)); exact BK236.out⟩
           have n1_ : Aside0 (((((w27.setCell ⟨gb240, 0, none⟩ (.int .i64 ((rd_T33 ((rd_T100 l0 0).f2.f0) a1).f0))).setCell ⟨gb240, 1, none⟩ (.int .i64 ((rd_T33 ((rd_T100 l0 0).f2.f0) a1).f1))).setCell ⟨gb240, 2, none⟩ (.int .i64 ((rd_T33 ((rd_T100 l0 0).f2.f0) a1).f2))).setCell ⟨gb240, 3, none⟩ (.slice A239_3 ((rd_T33 ((rd_T100 l0 0).f2.f0) a1).f3).length c239_3)).heap[gb240]? = some (.cells #[.int .i64 ((rd_T33 ((rd_T100 l0 0).f2.f0) a1).f0), .int .i64 ((rd_T33 ((rd_T100 l0 0).f2.f0) a1).f1), .int .i64 ((rd_T33 ((rd_T100 l0 0).f2.f0) a1).f2), .slice A239_3 ((rd_T33 ((rd_T100 l0 0).f2.f0) a1).f3).length c239_3] 33 (0, 0))) := ⟨by (with_reducible repeat (first | refine blk_drewN ?_ _ | refine blk_drew ?_ | refine blk_alloc ?_ _)); refine blk_put (cs := #[.int .i64 ((rd_T33 ((rd_T100 l0 0).f2.f0) a1).f0), .int .i64 ((rd_T33 ((rd_T100 l0 0).f2.f0) a1).f1), .int .i64 ((rd_T33 ((rd_T100 l0 0).f2.f0) a1).f2), .slice none 0 0]) ?_ 3 _ rfl; refine blk_put (cs := #[.int .i64 ((rd_T33 ((rd_T100 l0 0).f2.f0) a1).f0), .int .i64 ((rd_T33 ((rd_T100 l0 0).f2.f0) a1).f1), .int .i64 0, .slice none 0 0]) ?_ 2 _ rfl; refine blk_put (cs := #[.int .i64 ((rd_T33 ((rd_T100 l0 0).f2.f0) a1).f0), .int .i64 0, .int .i64 0, .slice none 0 0]) ?_ 1 _ rfl; refine blk_put (cs := #[.int .i64 0, .int .i64 0, .int .i64 0, .slice none 0 0]) ?_ 0 _ rfl; (with_reducible repeat (first | refine blk_drewN ?_ _ | refine blk_drew ?_ | refine blk_alloc ?_ _)); exact BK240.out⟩
           have n2_ : Aside0 (Below w.heap.size w ((((w27.setCell ⟨gb240, 0, none⟩ (.int .i64 ((rd_T33 ((rd_T100 l0 0).f2.f0) a1).f0))).setCell ⟨gb240, 1, none⟩ (.int .i64 ((rd_T33 ((rd_T100 l0 0).f2.f0) a1).f1))).setCell ⟨gb240, 2, none⟩ (.int .i64 ((rd_T33 ((rd_T100 l0 0).f2.f0) a1).f2))).setCell ⟨gb240, 3, none⟩ (.slice A239_3 ((rd_T33 ((rd_T100 l0 0).f2.f0) a1).f3).length c239_3))) := ⟨by repeat (first | (with_reducible first | exact HB.out | apply below_alloc | apply pw_below_drewN | apply below_drew1 | refine below_set ?_ GE236.out | refine below_set ?_ GE240.out) | exact HB.out)⟩
           (try clear BK236)
           (try clear BK240)
           (try clear HB)
           generalize ((((w27.setCell ⟨gb240, 0, none⟩ (.int .i64 ((rd_T33 ((rd_T100 l0 0).f2.f0) a1).f0))).setCell ⟨gb240, 1, none⟩ (.int .i64 ((rd_T33 ((rd_T100 l0 0).f2.f0) a1).f1))).setCell ⟨gb240, 2, none⟩ (.int .i64 ((rd_T33 ((rd_T100 l0 0).f2.f0) a1).f2))).setCell ⟨gb240, 3, none⟩ (.slice A239_3 ((rd_T33 ((rd_T100 l0 0).f2.f0) a1).f3).length c239_3)) = w30 at n0_ n1_ n2_ ⊢
           have BK236 := n0_
           have BK240 := n1_
           have HB := n2_
           clear n0_ n1_ n2_
           have n0_ := Aside0.mk (blk_drew BK236.out)
           have n1_ := Aside0.mk (blk_drew BK240.out)
           have n2_ := Aside0.mk (below_drew1 HB.out)
           clear BK236
           clear BK240
           clear HB
           have BK236 := n0_
           have BK240 := n1_
           have HB := n2_
           clear n0_ n1_ n2_
           have p245 : 0 ≤ (0 : Int) := (by omega)
           have q245 : 0 < (l0.length : Int) := of_dec
           obtain ⟨ad245, A245_0, c245_0, A245_1, c245_1, A245_2, c245_2, e245, hx245_0, hx245_1, hx245_2, hl245_0, hi245_0, hl245_1, hi245_1, hl245_2, hi245_2⟩ := at_T100 HR0.out 0 p245 q245
           have hw245_2 := hx245_2
           (try rw [show ((0 : Int)).toNat = 0 from rfl] at hw245_2)
           (try rw [show 0 * 3 = 0 from rfl] at hw245_2)
           (try rw [Addr.add_zero'] at hw245_2)
           have hw245_1 := hx245_1
           (try rw [show ((0 : Int)).toNat = 0 from rfl] at hw245_1)
           (try rw [show 0 * 3 = 0 from rfl] at hw245_1)
           (try rw [Addr.add_zero'] at hw245_1)
           have hw245_0 := hx245_0
           (try rw [show ((0 : Int)).toNat = 0 from rfl] at hw245_0)
           (try rw [show 0 * 3 = 0 from rfl] at hw245_0)
           (try rw [Addr.add_zero'] at hw245_0)
           obtain rfl : ad235 = ad245 := (by injection e245)
           have qi245 : (0 < l0.length) = True := eq_true (by omega)
           (try rw [show ((0 : Int)).toNat = 0 from rfl] at hx245_0)
           (try rw [show 0 * 3 = 0 from rfl] at hx245_0)
           (try rw [Addr.add_zero'] at hx245_0)
           (try rw [show ((0 : Int)).toNat = 0 from rfl] at hx245_1)
           (try rw [show 0 * 3 = 0 from rfl] at hx245_1)
           (try rw [Addr.add_zero'] at hx245_1)
           (try rw [show ((0 : Int)).toNat = 0 from rfl] at hx245_2)
           (try rw [show 0 * 3 = 0 from rfl] at hx245_2)
           (try rw [Addr.add_zero'] at hx245_2)
           replace hx245_0 := cell_b HB.out hx245_0
           replace hx245_1 := cell_b HB.out hx245_1
           replace hx245_2 := cell_b HB.out hx245_2
           have HR245_0 := Aside0.mk hi245_0
           have HC245_0 := Aside0.mk hl245_0
           clear hi245_0 hl245_0
           have HR245_1 := Aside0.mk hi245_1
           have HC245_1 := Aside0.mk hl245_1
           clear hi245_1 hl245_1
           have HR245_2 := Aside0.mk hi245_2
           have HC245_2 := Aside0.mk hl245_2
           clear hi245_2 hl245_2
           replace p245 := eq_true p245
           replace q245 := eq_true q245
           refine start_ (n := 9) (S := fun w' => w'.cell? ⟨gb240, 0, none⟩ = some (.int .i64 ((rd_T33 ((rd_T100 l0 0).f2.f0) a1).f0)) ∧ w'.cell? ⟨gb240, 1, none⟩ = some (.int .i64 ((rd_T33 ((rd_T100 l0 0).f2.f0) a1).f1)) ∧ w'.cell? ⟨gb240, 2, none⟩ = some (.int .i64 ((rd_T33 ((rd_T100 l0 0).f2.f0) a1).f2)) ∧ w'.cell? ⟨gb240, 3, none⟩ = some (.slice A239_3 ((rd_T33 ((rd_T100 l0 0).f2.f0) a1).f3).length c239_3) ∧ w'.cell? ad235 = some (.slice A245_0 ((rd_T100 l0 0).f0).length c245_0) ∧ w'.cell? ⟨ad235.block, ad235.off + 1, none⟩ = some (.slice A245_1 ((rd_T100 l0 0).f1).length c245_1) ∧ w'.cell? ⟨ad235.block, ad235.off + 2, none⟩ = some (.slice A245_2 ((rd_T100 l0 0).f2.f0).length c245_2)) (ds := []) #[false, false, false, false, false, false, false, false, false] (by kernel_rfl) rfl rfl ⟨(blk_cell BK240.out 0).trans rfl, (blk_cell BK240.out 1).trans rfl, (blk_cell BK240.out 2).trans rfl, (blk_cell BK240.out 3).trans rfl, (cell_b HB.out hw245_0), (cell_b HB.out hw245_1), (cell_b HB.out hw245_2)⟩ (fun hHeld => ?_); refine with_tabW view_File_Span.tab6 view_File_Span.bits6 (fun HT_ HW_ => ?_)
           generalize w30.drew = w31 at BK236 BK240 HB HR245_0 HR245_1 HR245_2 hx245_0 hx245_1 hx245_2 hHeld ⊢
           refine pure_ (i := 0) (N := some 59) (v := ?_) (a' := ?_) #[true, false, false, false, false, false, false, false, false] rfl rfl (any_of HT_.out (by kernel_rfl)) (fun _ _ _ h => h) (Or.inl ⟨by rfl, ?_⟩) ?_ ?_; rotate_left; { intro w'; go_simp; with_reducible rfl }; rotate_left; { simp only [Act.put, List.setIfInBounds_toArray, List.set_cons_zero, List.set_cons_succ, i64_w, i32_w]; rfl }
           refine pure_ (i := 2) (N := some 61) (v := ?_) (a' := ?_) #[true, false, true, false, false, false, false, false, false] rfl rfl (any_of HT_.out (by kernel_rfl)) (fun _ _ _ h => h) (Or.inl ⟨by rfl, ?_⟩) ?_ ?_; rotate_left; { intro w'; go_simp; with_reducible rfl }; rotate_left; { simp only [Act.put, List.setIfInBounds_toArray, List.set_cons_zero, List.set_cons_succ, i64_w, i32_w]; rfl }
           refine pure_ (i := 3) (N := some 62) (v := ?_) (a' := ?_) #[true, false, true, true, false, false, false, false, false] rfl rfl (any_of HT_.out (by kernel_rfl)) (fun _ _ _ h => h) (Or.inl ⟨by rfl, ?_⟩) ?_ ?_; rotate_left; { intro w'; go_simp; with_reducible rfl }; rotate_left; { simp only [Act.put, List.setIfInBounds_toArray, List.set_cons_zero, List.set_cons_succ, i64_w, i32_w]; rfl }
           refine pure_ (i := 4) (N := some 63) (v := ?_) (a' := ?_) #[true, false, true, true, true, false, false, false, false] rfl rfl (any_of HT_.out (by kernel_rfl)) (fun _ _ _ h => h) (Or.inl ⟨by rfl, ?_⟩) ?_ ?_; rotate_left; { intro w'; go_simp; with_reducible rfl }; rotate_left; { simp only [Act.put, List.setIfInBounds_toArray, List.set_cons_zero, List.set_cons_succ, i64_w, i32_w]; rfl }
           refine take_ (i := 1) (N := some 60) (v := ?_) (a' := ?_) #[true, true, true, true, true, false, false, false, false] rfl rfl (take_ofW HT_.out HW_.out (by kernel_rfl)) (fun _ _ _ h => h) (Or.inl ⟨by rfl, ?_⟩) hHeld ?_ ?_; rotate_left; { rintro w' ⟨s0, s1, s2, s3, s4, s5, s6⟩; go_simp; with_reducible rfl }; rotate_left; { simp only [Act.put, List.setIfInBounds_toArray, List.set_cons_zero, List.set_cons_succ, i64_w, i32_w]; rfl }
           refine take_ (i := 5) (N := some 64) (v := ?_) (a' := ?_) #[true, true, true, true, true, true, false, false, false] rfl rfl (take_ofW HT_.out HW_.out (by kernel_rfl)) (fun _ _ _ h => h) (Or.inl ⟨by rfl, ?_⟩) hHeld ?_ ?_; rotate_left; { rintro w' ⟨s0, s1, s2, s3, s4, s5, s6⟩; go_simp; with_reducible rfl }; rotate_left; { simp only [Act.put, List.setIfInBounds_toArray, List.set_cons_zero, List.set_cons_succ, i64_w, i32_w]; rfl }
           refine pure_ (i := 6) (N := some 65) (v := ?_) (a' := ?_) #[true, true, true, true, true, true, true, false, false] rfl rfl (any_of HT_.out (by kernel_rfl)) (fun _ _ _ h => h) (Or.inl ⟨by rfl, ?_⟩) ?_ ?_; rotate_left; { intro w'; go_simp; with_reducible rfl }; rotate_left; { simp only [Act.put, List.setIfInBounds_toArray, List.set_cons_zero, List.set_cons_succ, i64_w, i32_w]; rfl }
           refine pure_ (i := 7) (N := some 66) (v := ?_) (a' := ?_) #[true, true, true, true, true, true, true, true, false] rfl rfl (any_of HT_.out (by kernel_rfl)) (fun _ _ _ h => h) (Or.inl ⟨by rfl, ?_⟩) ?_ ?_; rotate_left; { intro w'; go_simp; with_reducible rfl }; rotate_left; { simp only [Act.put, List.setIfInBounds_toArray, List.set_cons_zero, List.set_cons_succ, i64_w, i32_w]; rfl }
           refine pure_ (i := 8) (N := some 58) (v := ?_) (a' := ?_) #[true, true, true, true, true, true, true, true, true] rfl rfl (any_of HT_.out (by kernel_rfl)) (fun _ _ _ h => h) (Or.inl ⟨by rfl, ?_⟩) ?_ ?_; rotate_left; { intro w'; go_simp; with_reducible rfl }; rotate_left; { simp only [Act.put, List.setIfInBounds_toArray, List.set_cons_zero, List.set_cons_succ, i64_w, i32_w]; rfl }
           refine done_ (done_of HT_.out (by kernel_rfl)) ?_
           try go_wp2
           have n0_ := Aside0.mk (blk_drew BK236.out)
           have n1_ := Aside0.mk (blk_drew BK240.out)
           have n2_ := Aside0.mk (below_drew1 HB.out)
           clear BK236
           clear BK240
           clear HB
           have BK236 := n0_
           have BK240 := n1_
           have HB := n2_
           clear n0_ n1_ n2_
           have p246 : 0 ≤ (0 : Int) := (by omega)
           have q246 : 0 < (l0.length : Int) := of_dec
           obtain ⟨ad246, A246_0, c246_0, A246_1, c246_1, A246_2, c246_2, e246, hx246_0, hx246_1, hx246_2, hl246_0, hi246_0, hl246_1, hi246_1, hl246_2, hi246_2⟩ := at_T100 HR0.out 0 p246 q246
           have hw246_2 := hx246_2
           (try rw [show ((0 : Int)).toNat = 0 from rfl] at hw246_2)
           (try rw [show 0 * 3 = 0 from rfl] at hw246_2)
           (try rw [Addr.add_zero'] at hw246_2)
           have hw246_1 := hx246_1
           (try rw [show ((0 : Int)).toNat = 0 from rfl] at hw246_1)
           (try rw [show 0 * 3 = 0 from rfl] at hw246_1)
           (try rw [Addr.add_zero'] at hw246_1)
           have hw246_0 := hx246_0
           (try rw [show ((0 : Int)).toNat = 0 from rfl] at hw246_0)
           (try rw [show 0 * 3 = 0 from rfl] at hw246_0)
           (try rw [Addr.add_zero'] at hw246_0)
           obtain rfl : ad235 = ad246 := (by injection e246)
           have qi246 : (0 < l0.length) = True := eq_true (by omega)
           (try rw [show ((0 : Int)).toNat = 0 from rfl] at hx246_0)
           (try rw [show 0 * 3 = 0 from rfl] at hx246_0)
           (try rw [Addr.add_zero'] at hx246_0)
           (try rw [show ((0 : Int)).toNat = 0 from rfl] at hx246_1)
           (try rw [show 0 * 3 = 0 from rfl] at hx246_1)
           (try rw [Addr.add_zero'] at hx246_1)
           (try rw [show ((0 : Int)).toNat = 0 from rfl] at hx246_2)
           (try rw [show 0 * 3 = 0 from rfl] at hx246_2)
           (try rw [Addr.add_zero'] at hx246_2)
           replace hx246_0 := cell_b HB.out hx246_0
           replace hx246_1 := cell_b HB.out hx246_1
           replace hx246_2 := cell_b HB.out hx246_2
           have HR246_0 := Aside0.mk hi246_0
           have HC246_0 := Aside0.mk hl246_0
           clear hi246_0 hl246_0
           have HR246_1 := Aside0.mk hi246_1
           have HC246_1 := Aside0.mk hl246_1
           clear hi246_1 hl246_1
           have HR246_2 := Aside0.mk hi246_2
           have HC246_2 := Aside0.mk hl246_2
           clear hi246_2 hl246_2
           replace p246 := eq_true p246
           replace q246 := eq_true q246
           have p247 : 0 ≤ (((rd_T33 ((rd_T100 l0 0).f2.f0) a1).f1) : Int) := of_dec
           have q247 : ((rd_T33 ((rd_T100 l0 0).f2.f0) a1).f1) < (((rd_T100 l0 0).f1).length : Int) := of_dec
           obtain ⟨ad247, e247, hx247_0, hx247_1, hx247_2, hx247_3, hx247_4⟩ := at_T103 HR246_1.out ((rd_T33 ((rd_T100 l0 0).f2.f0) a1).f1) p247 q247
           have hw247_4 := hx247_4
           have hw247_3 := hx247_3
           have hw247_2 := hx247_2
           have hw247_1 := hx247_1
           have hw247_0 := hx247_0
           cases e247
           replace hx247_0 := cell_b HB.out hx247_0
           replace hx247_1 := cell_b HB.out hx247_1
           replace hx247_2 := cell_b HB.out hx247_2
           replace hx247_3 := cell_b HB.out hx247_3
           replace hx247_4 := cell_b HB.out hx247_4
           replace p247 := eq_true p247
           replace q247 := eq_true q247
           have p248 : 0 ≤ (0 : Int) := (by omega)
           have q248 : 0 < (l0.length : Int) := of_dec
           obtain ⟨ad248, A248_0, c248_0, A248_1, c248_1, A248_2, c248_2, e248, hx248_0, hx248_1, hx248_2, hl248_0, hi248_0, hl248_1, hi248_1, hl248_2, hi248_2⟩ := at_T100 HR0.out 0 p248 q248
           have hw248_2 := hx248_2
           (try rw [show ((0 : Int)).toNat = 0 from rfl] at hw248_2)
           (try rw [show 0 * 3 = 0 from rfl] at hw248_2)
           (try rw [Addr.add_zero'] at hw248_2)
           have hw248_1 := hx248_1
           (try rw [show ((0 : Int)).toNat = 0 from rfl] at hw248_1)
           (try rw [show 0 * 3 = 0 from rfl] at hw248_1)
           (try rw [Addr.add_zero'] at hw248_1)
           have hw248_0 := hx248_0
           (try rw [show ((0 : Int)).toNat = 0 from rfl] at hw248_0)
           (try rw [show 0 * 3 = 0 from rfl] at hw248_0)
           (try rw [Addr.add_zero'] at hw248_0)
           obtain rfl : ad235 = ad248 := (by injection e248)
           have qi248 : (0 < l0.length) = True := eq_true (by omega)
           (try rw [show ((0 : Int)).toNat = 0 from rfl] at hx248_0)
           (try rw [show 0 * 3 = 0 from rfl] at hx248_0)
           (try rw [Addr.add_zero'] at hx248_0)
           (try rw [show ((0 : Int)).toNat = 0 from rfl] at hx248_1)
           (try rw [show 0 * 3 = 0 from rfl] at hx248_1)
           (try rw [Addr.add_zero'] at hx248_1)
           (try rw [show ((0 : Int)).toNat = 0 from rfl] at hx248_2)
           (try rw [show 0 * 3 = 0 from rfl] at hx248_2)
           (try rw [Addr.add_zero'] at hx248_2)
           replace hx248_0 := cell_b HB.out hx248_0
           replace hx248_1 := cell_b HB.out hx248_1
           replace hx248_2 := cell_b HB.out hx248_2
           have HR248_0 := Aside0.mk hi248_0
           have HC248_0 := Aside0.mk hl248_0
           clear hi248_0 hl248_0
           have HR248_1 := Aside0.mk hi248_1
           have HC248_1 := Aside0.mk hl248_1
           clear hi248_1 hl248_1
           have HR248_2 := Aside0.mk hi248_2
           have HC248_2 := Aside0.mk hl248_2
           clear hi248_2 hl248_2
           replace p248 := eq_true p248
           replace q248 := eq_true q248
           have ea_ := Option.some.inj (hx246_0.symm.trans hx248_0)
           injection ea_ with ea_ en_ ec_
           subst ea_
           subst ec_
           clear en_
           have ea_ := Option.some.inj (hx246_1.symm.trans hx248_1)
           injection ea_ with ea_ en_ ec_
           subst ea_
           subst ec_
           clear en_
           have ea_ := Option.some.inj (hx246_2.symm.trans hx248_2)
           injection ea_ with ea_ en_ ec_
           subst ea_
           subst ec_
           clear en_
           have p249 : 0 ≤ (((rd_T33 ((rd_T100 l0 0).f2.f0) a1).f1) : Int) := of_dec
           have q249 : ((rd_T33 ((rd_T100 l0 0).f2.f0) a1).f1) < (((rd_T100 l0 0).f1).length : Int) := of_dec
           obtain ⟨ad249, e249, hx249_0, hx249_1, hx249_2, hx249_3, hx249_4⟩ := at_T103 HR248_1.out ((rd_T33 ((rd_T100 l0 0).f2.f0) a1).f1) p249 q249
           have hw249_4 := hx249_4
           have hw249_3 := hx249_3
           have hw249_2 := hx249_2
           have hw249_1 := hx249_1
           have hw249_0 := hx249_0
           obtain rfl : ad247 = ad249 := (by injection e249)
           replace hx249_0 := cell_b HB.out hx249_0
           replace hx249_1 := cell_b HB.out hx249_1
           replace hx249_2 := cell_b HB.out hx249_2
           replace hx249_3 := cell_b HB.out hx249_3
           replace hx249_4 := cell_b HB.out hx249_4
           replace p249 := eq_true p249
           replace q249 := eq_true q249
           refine start_ (n := 20) (S := fun w' => w'.cell? ⟨gb240, 0, none⟩ = some (.int .i64 ((rd_T33 ((rd_T100 l0 0).f2.f0) a1).f0)) ∧ w'.cell? ⟨gb240, 1, none⟩ = some (.int .i64 ((rd_T33 ((rd_T100 l0 0).f2.f0) a1).f1)) ∧ w'.cell? ⟨gb240, 2, none⟩ = some (.int .i64 ((rd_T33 ((rd_T100 l0 0).f2.f0) a1).f2)) ∧ w'.cell? ⟨gb240, 3, none⟩ = some (.slice A239_3 ((rd_T33 ((rd_T100 l0 0).f2.f0) a1).f3).length c239_3) ∧ w'.cell? ad235 = some (.slice A246_0 ((rd_T100 l0 0).f0).length c246_0) ∧ w'.cell? ⟨ad235.block, ad235.off + 1, none⟩ = some (.slice (some ad247) ((rd_T100 l0 0).f1).length c246_1) ∧ w'.cell? ⟨ad235.block, ad235.off + 2, none⟩ = some (.slice A246_2 ((rd_T100 l0 0).f2.f0).length c246_2) ∧ w'.cell? (ad247.add ((((rd_T33 ((rd_T100 l0 0).f2.f0) a1).f1)).toNat * 5)) = some (.int .i64 ((rd_T103 ((rd_T100 l0 0).f1) ((rd_T33 ((rd_T100 l0 0).f2.f0) a1).f1)).f0)) ∧ w'.cell? ⟨(ad247.add ((((rd_T33 ((rd_T100 l0 0).f2.f0) a1).f1)).toNat * 5)).block, (ad247.add ((((rd_T33 ((rd_T100 l0 0).f2.f0) a1).f1)).toNat * 5)).off + 1, none⟩ = some (.int .i64 ((rd_T103 ((rd_T100 l0 0).f1) ((rd_T33 ((rd_T100 l0 0).f2.f0) a1).f1)).f1)) ∧ w'.cell? ⟨(ad247.add ((((rd_T33 ((rd_T100 l0 0).f2.f0) a1).f1)).toNat * 5)).block, (ad247.add ((((rd_T33 ((rd_T100 l0 0).f2.f0) a1).f1)).toNat * 5)).off + 2, none⟩ = some (.int .i64 ((rd_T103 ((rd_T100 l0 0).f1) ((rd_T33 ((rd_T100 l0 0).f2.f0) a1).f1)).f2)) ∧ w'.cell? ⟨(ad247.add ((((rd_T33 ((rd_T100 l0 0).f2.f0) a1).f1)).toNat * 5)).block, (ad247.add ((((rd_T33 ((rd_T100 l0 0).f2.f0) a1).f1)).toNat * 5)).off + 3, none⟩ = some (.bool ((rd_T103 ((rd_T100 l0 0).f1) ((rd_T33 ((rd_T100 l0 0).f2.f0) a1).f1)).f3)) ∧ w'.cell? ⟨(ad247.add ((((rd_T33 ((rd_T100 l0 0).f2.f0) a1).f1)).toNat * 5)).block, (ad247.add ((((rd_T33 ((rd_T100 l0 0).f2.f0) a1).f1)).toNat * 5)).off + 4, none⟩ = some (.int .i64 ((rd_T103 ((rd_T100 l0 0).f1) ((rd_T33 ((rd_T100 l0 0).f2.f0) a1).f1)).f4)) ∧ w'.cell? ad235 = some (.slice A246_0 ((rd_T100 l0 0).f0).length c246_0) ∧ w'.cell? ⟨ad235.block, ad235.off + 1, none⟩ = some (.slice (some ad247) ((rd_T100 l0 0).f1).length c246_1) ∧ w'.cell? ⟨ad235.block, ad235.off + 2, none⟩ = some (.slice A246_2 ((rd_T100 l0 0).f2.f0).length c246_2) ∧ w'.cell? (ad247.add ((((rd_T33 ((rd_T100 l0 0).f2.f0) a1).f1)).toNat * 5)) = some (.int .i64 ((rd_T103 ((rd_T100 l0 0).f1) ((rd_T33 ((rd_T100 l0 0).f2.f0) a1).f1)).f0)) ∧ w'.cell? ⟨(ad247.add ((((rd_T33 ((rd_T100 l0 0).f2.f0) a1).f1)).toNat * 5)).block, (ad247.add ((((rd_T33 ((rd_T100 l0 0).f2.f0) a1).f1)).toNat * 5)).off + 1, none⟩ = some (.int .i64 ((rd_T103 ((rd_T100 l0 0).f1) ((rd_T33 ((rd_T100 l0 0).f2.f0) a1).f1)).f1)) ∧ w'.cell? ⟨(ad247.add ((((rd_T33 ((rd_T100 l0 0).f2.f0) a1).f1)).toNat * 5)).block, (ad247.add ((((rd_T33 ((rd_T100 l0 0).f2.f0) a1).f1)).toNat * 5)).off + 2, none⟩ = some (.int .i64 ((rd_T103 ((rd_T100 l0 0).f1) ((rd_T33 ((rd_T100 l0 0).f2.f0) a1).f1)).f2)) ∧ w'.cell? ⟨(ad247.add ((((rd_T33 ((rd_T100 l0 0).f2.f0) a1).f1)).toNat * 5)).block, (ad247.add ((((rd_T33 ((rd_T100 l0 0).f2.f0) a1).f1)).toNat * 5)).off + 3, none⟩ = some (.bool ((rd_T103 ((rd_T100 l0 0).f1) ((rd_T33 ((rd_T100 l0 0).f2.f0) a1).f1)).f3)) ∧ w'.cell? ⟨(ad247.add ((((rd_T33 ((rd_T100 l0 0).f2.f0) a1).f1)).toNat * 5)).block, (ad247.add ((((rd_T33 ((rd_T100 l0 0).f2.f0) a1).f1)).toNat * 5)).off + 4, none⟩ = some (.int .i64 ((rd_T103 ((rd_T100 l0 0).f1) ((rd_T33 ((rd_T100 l0 0).f2.f0) a1).f1)).f4))) (ds := []) #[false, false, false, false, false, false, false, false, false, false, false, false, false, false, false, false, false, false, false, false] (by kernel_rfl) rfl rfl ⟨(blk_cell BK240.out 0).trans rfl, (blk_cell BK240.out 1).trans rfl, (blk_cell BK240.out 2).trans rfl, (blk_cell BK240.out 3).trans rfl, (cell_b HB.out hw246_0), (cell_b HB.out hw246_1), (cell_b HB.out hw246_2), (cell_b HB.out hw247_0), (cell_b HB.out hw247_1), (cell_b HB.out hw247_2), (cell_b HB.out hw247_3), (cell_b HB.out hw247_4), (cell_b HB.out hw248_0), (cell_b HB.out hw248_1), (cell_b HB.out hw248_2), (cell_b HB.out hw249_0), (cell_b HB.out hw249_1), (cell_b HB.out hw249_2), (cell_b HB.out hw249_3), (cell_b HB.out hw249_4)⟩ (fun hHeld => ?_); refine with_tabW view_File_Span.tab7 view_File_Span.bits7 (fun HT_ HW_ => ?_)
           generalize w31.drew = w32 at BK236 BK240 HB HR246_0 HR246_1 HR246_2 HR248_0 HR248_1 HR248_2 hx246_0 hx246_1 hx246_2 hx247_0 hx247_1 hx247_2 hx247_3 hx247_4 hx248_0 hx248_1 hx248_2 hx249_0 hx249_1 hx249_2 hx249_3 hx249_4 hHeld ⊢
           refine pure_ (i := 0) (N := some 67) (v := ?_) (a' := ?_) (bl_ 20 1) rfl rfl (any_of HT_.out (by kernel_rfl)) (fun _ _ _ h => h) (Or.inl ⟨by rfl, ?_⟩) ?_ ?_; rotate_left; { intro w'; go_simp; with_reducible rfl }; rotate_left; { simp only [Act.put, List.setIfInBounds_toArray, List.set_cons_zero, List.set_cons_succ, i64_w, i32_w]; rfl }
           refine pure_ (i := 1) (N := some 68) (v := ?_) (a' := ?_) (bl_ 20 3) rfl rfl (any_of HT_.out (by kernel_rfl)) (fun _ _ _ h => h) (Or.inl ⟨by rfl, ?_⟩) ?_ ?_; rotate_left; { intro w'; go_simp; with_reducible rfl }; rotate_left; { simp only [Act.put, List.setIfInBounds_toArray, List.set_cons_zero, List.set_cons_succ, i64_w, i32_w]; rfl }
           refine pure_ (i := 2) (N := some 69) (v := ?_) (a' := ?_) (bl_ 20 7) rfl rfl (any_of HT_.out (by kernel_rfl)) (fun _ _ _ h => h) (Or.inl ⟨by rfl, ?_⟩) ?_ ?_; rotate_left; { intro w'; go_simp; with_reducible rfl }; rotate_left; { simp only [Act.put, List.setIfInBounds_toArray, List.set_cons_zero, List.set_cons_succ, i64_w, i32_w]; rfl }
           refine pure_ (i := 4) (N := some 71) (v := ?_) (a' := ?_) (bl_ 20 23) rfl rfl (any_of HT_.out (by kernel_rfl)) (fun _ _ _ h => h) (Or.inl ⟨by rfl, ?_⟩) ?_ ?_; rotate_left; { intro w'; go_simp; with_reducible rfl }; rotate_left; { simp only [Act.put, List.setIfInBounds_toArray, List.set_cons_zero, List.set_cons_succ, i64_w, i32_w]; rfl }
           refine pure_ (i := 9) (N := some 76) (v := ?_) (a' := ?_) (bl_ 20 535) rfl rfl (any_of HT_.out (by kernel_rfl)) (fun _ _ _ h => h) (Or.inl ⟨by rfl, ?_⟩) ?_ ?_; rotate_left; { intro w'; go_simp; with_reducible rfl }; rotate_left; { simp only [Act.put, List.setIfInBounds_toArray, List.set_cons_zero, List.set_cons_succ, i64_w, i32_w]; rfl }
           refine pure_ (i := 10) (N := some 77) (v := ?_) (a' := ?_) (bl_ 20 1559) rfl rfl (any_of HT_.out (by kernel_rfl)) (fun _ _ _ h => h) (Or.inl ⟨by rfl, ?_⟩) ?_ ?_; rotate_left; { intro w'; go_simp; with_reducible rfl }; rotate_left; { simp only [Act.put, List.setIfInBounds_toArray, List.set_cons_zero, List.set_cons_succ, i64_w, i32_w]; rfl }
           refine pure_ (i := 11) (N := some 78) (v := ?_) (a' := ?_) (bl_ 20 3607) rfl rfl (any_of HT_.out (by kernel_rfl)) (fun _ _ _ h => h) (Or.inl ⟨by rfl, ?_⟩) ?_ ?_; rotate_left; { intro w'; go_simp; with_reducible rfl }; rotate_left; { simp only [Act.put, List.setIfInBounds_toArray, List.set_cons_zero, List.set_cons_succ, i64_w, i32_w]; rfl }
           refine pure_ (i := 13) (N := some 80) (v := ?_) (a' := ?_) (bl_ 20 11799) rfl rfl (any_of HT_.out (by kernel_rfl)) (fun _ _ _ h => h) (Or.inl ⟨by rfl, ?_⟩) ?_ ?_; rotate_left; { intro w'; go_simp; with_reducible rfl }; rotate_left; { simp only [Act.put, List.setIfInBounds_toArray, List.set_cons_zero, List.set_cons_succ, i64_w, i32_w]; rfl }
           refine take_ (i := 3) (N := some 70) (v := ?_) (a' := ?_) (bl_ 20 11807) rfl rfl (take_ofW HT_.out HW_.out (by kernel_rfl)) (fun _ _ _ h => h) (Or.inl ⟨by rfl, ?_⟩) hHeld ?_ ?_; rotate_left; { rintro w' ⟨s0, s1, s2, s3, s4, s5, s6, s7, s8, s9, s10, s11, s12, s13, s14, s15, s16, s17, s18, s19⟩; go_simp; with_reducible rfl }; rotate_left; { simp only [Act.put, List.setIfInBounds_toArray, List.set_cons_zero, List.set_cons_succ, i64_w, i32_w]; rfl }
           refine take_ (i := 5) (N := some 72) (v := ?_) (a' := ?_) (bl_ 20 11839) rfl rfl (take_ofW HT_.out HW_.out (by kernel_rfl)) (fun _ _ _ h => h) (Or.inl ⟨by rfl, ?_⟩) hHeld ?_ ?_; rotate_left; { rintro w' ⟨s0, s1, s2, s3, s4, s5, s6, s7, s8, s9, s10, s11, s12, s13, s14, s15, s16, s17, s18, s19⟩; go_simp; with_reducible rfl }; rotate_left; { simp only [Act.put, List.setIfInBounds_toArray, List.set_cons_zero, List.set_cons_succ, i64_w, i32_w]; rfl }
           refine pure_ (i := 6) (N := some 73) (v := ?_) (a' := ?_) (bl_ 20 11903) rfl rfl (any_of HT_.out (by kernel_rfl)) (fun _ _ _ h => h) (Or.inl ⟨by rfl, ?_⟩) ?_ ?_; rotate_left; { intro w'; go_simp; with_reducible rfl }; rotate_left; { simp only [Act.put, List.setIfInBounds_toArray, List.set_cons_zero, List.set_cons_succ, i64_w, i32_w]; rfl }
           refine pure_ (i := 7) (N := some 74) (v := ?_) (a' := ?_) (bl_ 20 12031) rfl rfl (any_of HT_.out (by kernel_rfl)) (fun _ _ _ h => h) (Or.inl ⟨by rfl, ?_⟩) ?_ ?_; rotate_left; { intro w'; go_simp; with_reducible rfl }; rotate_left; { simp only [Act.put, List.setIfInBounds_toArray, List.set_cons_zero, List.set_cons_succ, i64_w, i32_w]; rfl }
           refine take_ (i := 8) (N := some 75) (v := ?_) (a' := ?_) (bl_ 20 12287) rfl rfl (take_ofW HT_.out HW_.out (by kernel_rfl)) (fun _ _ _ h => h) (Or.inl ⟨by rfl, ?_⟩) hHeld ?_ ?_; rotate_left; { rintro w' ⟨s0, s1, s2, s3, s4, s5, s6, s7, s8, s9, s10, s11, s12, s13, s14, s15, s16, s17, s18, s19⟩; go_simp; with_reducible rfl }; rotate_left; { simp only [Act.put, List.setIfInBounds_toArray, List.set_cons_zero, List.set_cons_succ, i64_w, i32_w]; rfl }
           refine take_ (i := 12) (N := some 79) (v := ?_) (a' := ?_) (bl_ 20 16383) rfl rfl (take_ofW HT_.out HW_.out (by kernel_rfl)) (fun _ _ _ h => h) (Or.inl ⟨by rfl, ?_⟩) hHeld ?_ ?_; rotate_left; { rintro w' ⟨s0, s1, s2, s3, s4, s5, s6, s7, s8, s9, s10, s11, s12, s13, s14, s15, s16, s17, s18, s19⟩; go_simp; with_reducible rfl }; rotate_left; { simp only [Act.put, List.setIfInBounds_toArray, List.set_cons_zero, List.set_cons_succ, i64_w, i32_w]; rfl }
           refine take_ (i := 14) (N := some 81) (v := ?_) (a' := ?_) (bl_ 20 32767) rfl rfl (take_ofW HT_.out HW_.out (by kernel_rfl)) (fun _ _ _ h => h) (Or.inl ⟨by rfl, ?_⟩) hHeld ?_ ?_; rotate_left; { rintro w' ⟨s0, s1, s2, s3, s4, s5, s6, s7, s8, s9, s10, s11, s12, s13, s14, s15, s16, s17, s18, s19⟩; go_simp; with_reducible rfl }; rotate_left; { simp only [Act.put, List.setIfInBounds_toArray, List.set_cons_zero, List.set_cons_succ, i64_w, i32_w]; rfl }
           refine pure_ (i := 15) (N := some 82) (v := ?_) (a' := ?_) (bl_ 20 65535) rfl rfl (any_of HT_.out (by kernel_rfl)) (fun _ _ _ h => h) (Or.inl ⟨by rfl, ?_⟩) ?_ ?_; rotate_left; { intro w'; go_simp; with_reducible rfl }; rotate_left; { simp only [Act.put, List.setIfInBounds_toArray, List.set_cons_zero, List.set_cons_succ, i64_w, i32_w]; rfl }
           refine pure_ (i := 16) (N := some 83) (v := ?_) (a' := ?_) (bl_ 20 131071) rfl rfl (any_of HT_.out (by kernel_rfl)) (fun _ _ _ h => h) (Or.inl ⟨by rfl, ?_⟩) ?_ ?_; rotate_left; { intro w'; go_simp; with_reducible rfl }; rotate_left; { simp only [Act.put, List.setIfInBounds_toArray, List.set_cons_zero, List.set_cons_succ, i64_w, i32_w]; rfl }
           refine take_ (i := 17) (N := some 84) (v := ?_) (a' := ?_) (bl_ 20 262143) rfl rfl (take_ofW HT_.out HW_.out (by kernel_rfl)) (fun _ _ _ h => h) (Or.inl ⟨by rfl, ?_⟩) hHeld ?_ ?_; rotate_left; { rintro w' ⟨s0, s1, s2, s3, s4, s5, s6, s7, s8, s9, s10, s11, s12, s13, s14, s15, s16, s17, s18, s19⟩; go_simp; with_reducible rfl }; rotate_left; { simp only [Act.put, List.setIfInBounds_toArray, List.set_cons_zero, List.set_cons_succ, i64_w, i32_w]; rfl }
           refine pure_ (i := 18) (N := some 85) (v := ?_) (a' := ?_) (bl_ 20 524287) rfl rfl (any_of HT_.out (by kernel_rfl)) (fun _ _ _ h => h) (Or.inl ⟨by rfl, ?_⟩) ?_ ?_; rotate_left; { intro w'; go_simp; with_reducible rfl }; rotate_left; { simp only [Act.put, List.setIfInBounds_toArray, List.set_cons_zero, List.set_cons_succ, i64_w, i32_w]; rfl }
           refine one_ (i := 19) (N := none) (bl_ 20 1048575) rfl rfl (one_of HT_.out (by kernel_rfl)) (by decide) (fun K hK => ?_)
           have hs33 : w32.cell? ⟨gb236, 0, none⟩ = some (.int .i64 0) := (blk_cell BK236.out 0).trans rfl
           have hfs33 := blk_frozen BK236.out 0
           have hns33_1 := NB240_236.out
           have hms33_1 := NB236_240.out
           have hs34 : w32.cell? ⟨gb236, 1, none⟩ = some (.int .i64 0) := (blk_cell BK236.out 1).trans rfl
           have hfs34 := blk_frozen BK236.out 1
           have hns34_1 := NB240_236.out
           have hms34_1 := NB236_240.out
           refine skip_ (w1 := ?_) (by rfl) rfl ?_ ?_; rotate_left; { go_simp; rfl }
           refine hK.out _ _ ⟨((cell_far (p := ⟨gb236, _, none⟩) NB240_236.out _).trans (((cell_far (p := ⟨gb236, _, none⟩) NB240_236.out _).trans (hHeld.1)))), ((cell_far (p := ⟨gb236, _, none⟩) NB240_236.out _).trans (((cell_far (p := ⟨gb236, _, none⟩) NB240_236.out _).trans (hHeld.2.1)))), ((cell_far (p := ⟨gb236, _, none⟩) NB240_236.out _).trans (((cell_far (p := ⟨gb236, _, none⟩) NB240_236.out _).trans (hHeld.2.2.1)))), ((cell_far (p := ⟨gb236, _, none⟩) NB240_236.out _).trans (((cell_far (p := ⟨gb236, _, none⟩) NB240_236.out _).trans (hHeld.2.2.2.1)))), ((far_c hw246_0 GW236.out).trans (((far_c hw246_0 GW236.out).trans (hHeld.2.2.2.2.1)))), ((far_c hw246_1 GW236.out).trans (((far_c hw246_1 GW236.out).trans (hHeld.2.2.2.2.2.1)))), ((far_c hw246_2 GW236.out).trans (((far_c hw246_2 GW236.out).trans (hHeld.2.2.2.2.2.2.1)))), ((far_c hw247_0 GW236.out).trans (((far_c hw247_0 GW236.out).trans (hHeld.2.2.2.2.2.2.2.1)))), ((far_c hw247_1 GW236.out).trans (((far_c hw247_1 GW236.out).trans (hHeld.2.2.2.2.2.2.2.2.1)))), ((far_c hw247_2 GW236.out).trans (((far_c hw247_2 GW236.out).trans (hHeld.2.2.2.2.2.2.2.2.2.1)))), ((far_c hw247_3 GW236.out).trans (((far_c hw247_3 GW236.out).trans (hHeld.2.2.2.2.2.2.2.2.2.2.1)))), ((far_c hw247_4 GW236.out).trans (((far_c hw247_4 GW236.out).trans (hHeld.2.2.2.2.2.2.2.2.2.2.2.1)))), ((far_c hw248_0 GW236.out).trans (((far_c hw248_0 GW236.out).trans (hHeld.2.2.2.2.2.2.2.2.2.2.2.2.1)))), ((far_c hw248_1 GW236.out).trans (((far_c hw248_1 GW236.out).trans (hHeld.2.2.2.2.2.2.2.2.2.2.2.2.2.1)))), ((far_c hw248_2 GW236.out).trans (((far_c hw248_2 GW236.out).trans (hHeld.2.2.2.2.2.2.2.2.2.2.2.2.2.2.1)))), ((far_c hw249_0 GW236.out).trans (((far_c hw249_0 GW236.out).trans (hHeld.2.2.2.2.2.2.2.2.2.2.2.2.2.2.2.1)))), ((far_c hw249_1 GW236.out).trans (((far_c hw249_1 GW236.out).trans (hHeld.2.2.2.2.2.2.2.2.2.2.2.2.2.2.2.2.1)))), ((far_c hw249_2 GW236.out).trans (((far_c hw249_2 GW236.out).trans (hHeld.2.2.2.2.2.2.2.2.2.2.2.2.2.2.2.2.2.1)))), ((far_c hw249_3 GW236.out).trans (((far_c hw249_3 GW236.out).trans (hHeld.2.2.2.2.2.2.2.2.2.2.2.2.2.2.2.2.2.2.1)))), ((far_c hw249_4 GW236.out).trans (((far_c hw249_4 GW236.out).trans (hHeld.2.2.2.2.2.2.2.2.2.2.2.2.2.2.2.2.2.2.2))))⟩ (fun hHeld => ?_)
           clear hK K
           refine done_ (done_of HT_.out (by kernel_rfl)) ?_
           try go_wp2
           refine bodyPost_ret (results_cell_row rfl _ _ gb236 105 #[.int .i64 ((rd_T103 ((rd_T100 l0 0).f1) ((rd_T33 ((rd_T100 l0 0).f2.f0) a1).f1)).f1), .int .i64 ((rd_T103 ((rd_T100 l0 0).f1) ((rd_T33 ((rd_T100 l0 0).f2.f0) a1).f1)).f1)] (0, 0) _ rfl (by (with_reducible repeat (first | refine blk_drewN ?_ _ | refine blk_drew ?_ | refine blk_alloc ?_ _)); refine blk_put (cs := #[.int .i64 ((rd_T103 ((rd_T100 l0 0).f1) ((rd_T33 ((rd_T100 l0 0).f2.f0) a1).f1)).f1), .int .i64 0]) ?_ 1 _ rfl; refine blk_put (cs := #[.int .i64 0, .int .i64 0]) ?_ 0 _ rfl; (with_reducible repeat (first | refine blk_drewN ?_ _ | refine blk_drew ?_ | refine blk_alloc ?_ _)); exact BK236.out) Tryd.underlying105 rfl (by kernel_rfl)) rfl ?_
           exact ⟨by first | rfl | (simp [*, errW_none, errW_some, erT_no, erV_no, erT_at, erV_at] <;> rfl), by repeat (first | (with_reducible first | exact HB.out | apply below_alloc | apply pw_below_drewN | apply below_drew1 | refine below_set ?_ GE236.out | refine below_set ?_ GE240.out) | exact HB.out)⟩
          ·rw [if_neg c26] at H
           exact absurd H (by simp)
         ·rw [if_neg c25] at H
          have c25b0 : decide (((rd_T33 ((rd_T100 l0 0).f2.f0) a1).f1) < (((rd_T100 l0 0).f1).length : Int)) = false := decide_eq_false c25
          clear c25
          by_cases c35 : (((rd_T100 l0 0).f1).length : Int) > 0
          ·rw [if_pos c35] at H
           have c35b0 : decide (0 < (((rd_T100 l0 0).f1).length : Int)) = true := decide_eq_true c35
           have c35b1 : decide (0 < ((rd_T100 l0 0).f1).length) = true := decide_eq_true (by omega)
           clear c35
           obtain ⟨ji36, hji36⟩ : ∃ j_ : Int, (wrap64 ((((rd_T100 l0 0).f1).length : Int) - 1)) = j_ := ⟨_, rfl⟩
           replace H : (if 0 ≤ (ji36) then (if (ji36) < (((rd_T100 l0 0).f1).length : Int) then (some ((rd_T103 ((rd_T100 l0 0).f1) (ji36)).f2, (rd_T103 ((rd_T100 l0 0).f1) (ji36)).f2)) else (none)) else (none)) = some (r1, r2) := by first | (rw [hji36] at H; exact H) | (simp only [hji36] at H ⊢; exact H)
           have hji36w : (IntKind.i64.wrap ((((rd_T100 l0 0).f1).length : Int) - 1)) = ji36 := (i64_w _).trans hji36
           by_cases c37 : 0 ≤ (ji36)
           ·rw [if_pos c37] at H
            have c37b0 : decide (0 ≤ (ji36)) = true := decide_eq_true c37
            clear c37
            by_cases c38 : (ji36) < (((rd_T100 l0 0).f1).length : Int)
            ·rw [if_pos c38] at H
             have c38b0 : decide ((ji36) < (((rd_T100 l0 0).f1).length : Int)) = true := decide_eq_true c38
             clear c38
             simp only [Option.some.injEq, Prod.mk.injEq] at H
             obtain ⟨rfl, rfl⟩ := H
             have p238 : 0 ≤ (0 : Int) := (by omega)
             have q238 : 0 < (l0.length : Int) := of_dec
             obtain ⟨ad238, A238_0, c238_0, A238_1, c238_1, A238_2, c238_2, e238, hx238_0, hx238_1, hx238_2, hl238_0, hi238_0, hl238_1, hi238_1, hl238_2, hi238_2⟩ := at_T100 HR0.out 0 p238 q238
             obtain rfl : ad235 = ad238 := (by injection e238)
             have qi238 : (0 < l0.length) = True := eq_true (by omega)
             (try rw [show ((0 : Int)).toNat = 0 from rfl] at hx238_0)
             (try rw [show 0 * 3 = 0 from rfl] at hx238_0)
             (try rw [Addr.add_zero'] at hx238_0)
             (try rw [show ((0 : Int)).toNat = 0 from rfl] at hx238_1)
             (try rw [show 0 * 3 = 0 from rfl] at hx238_1)
             (try rw [Addr.add_zero'] at hx238_1)
             (try rw [show ((0 : Int)).toNat = 0 from rfl] at hx238_2)
             (try rw [show 0 * 3 = 0 from rfl] at hx238_2)
             (try rw [Addr.add_zero'] at hx238_2)
             replace hx238_0 := cell_b HB.out hx238_0
             replace hx238_1 := cell_b HB.out hx238_1
             replace hx238_2 := cell_b HB.out hx238_2
             have HR238_0 := Aside0.mk hi238_0
             have HC238_0 := Aside0.mk hl238_0
             clear hi238_0 hl238_0
             have HR238_1 := Aside0.mk hi238_1
             have HC238_1 := Aside0.mk hl238_1
             clear hi238_1 hl238_1
             have HR238_2 := Aside0.mk hi238_2
             have HC238_2 := Aside0.mk hl238_2
             clear hi238_2 hl238_2
             replace p238 := eq_true p238
             replace q238 := eq_true q238
             have p239 : 0 ≤ (a1 : Int) := of_dec
             have q239 : a1 < (((rd_T100 l0 0).f2.f0).length : Int) := of_dec
             obtain ⟨ad239, A239_3, c239_3, e239, hx239_0, hx239_1, hx239_2, hx239_3, hl239_3, hi239_3⟩ := at_T33 HR238_2.out a1 p239 q239
             cases e239
             replace hx239_0 := cell_b HB.out hx239_0
             replace hx239_1 := cell_b HB.out hx239_1
             replace hx239_2 := cell_b HB.out hx239_2
             replace hx239_3 := cell_b HB.out hx239_3
             have HR239_3 := Aside0.mk hi239_3
             have HC239_3 := Aside0.mk hl239_3
             clear hi239_3 hl239_3
             replace p239 := eq_true p239
             replace q239 := eq_true q239
             try go_wp2_with (first | ((with_reducible refine gate_dst (N := 5) rfl ?_); (try (refine gate_guard (by rfl) ?_; dsimp only)); refine box_event ?hg (N := 5) ?hd (cs := #[.int .i64 0, .int .i64 0, .int .i64 0, .slice none 0 0]) (t := 33) ?hr ?_; (case hd => rfl); (case hg => rfl); (case hr => first | (go_simp; done) | (go_simp; rfl)); intro gb240 hg w39 hbox hb; have n0_ := Aside0.mk (blk_below (g := gb236) (o := .cells #[.int .i64 0, .int .i64 0] 105 (0, 0)) (go_k BK236.out) hb); have n1_ := Aside0.mk (below_step (go_b1 HB.out GE236.out) hb); have n2_ := Aside0.mk (hbox); have n3_ := Aside0.mk ((by rw [hg]; exact (below_size (go_b1 HB.out GE236.out)) : w.heap.size ≤ gb240)); have n4_ := n3_; have n5_ := Aside0.mk ((by rw [hg]; exact Nat.ne_of_lt (blk_lt (g := gb236) (o := .cells #[.int .i64 0, .int .i64 0] 105 (0, 0)) (go_k BK236.out)) : gb236 ≠ gb240)); have n6_ := Aside0.mk ((by rw [hg]; exact Nat.ne_of_gt (blk_lt (g := gb236) (o := .cells #[.int .i64 0, .int .i64 0] 105 (0, 0)) (go_k BK236.out)) : gb240 ≠ gb236)); clear BK236; clear HB; have BK236 := n0_; have HB := n1_; have BK240 := n2_; have GW240 := n3_; have GE240 := n4_; have NB236_240 := n5_; have NB240_236 := n6_; clear n0_ n1_ n2_ n3_ n4_ n5_ n6_; clear hb hbox hg; have hnb40 := NB240_236.out; have hnc40 := NB236_240.out; have hcz41_0 : w39.cell? ⟨gb240, 0, none⟩ = some (.int .i64 0) := (blk_cell BK240.out 0).trans rfl; have hcz41_1 : w39.cell? ⟨gb240, 1, none⟩ = some (.int .i64 0) := (blk_cell BK240.out 1).trans rfl; have hcz41_2 : w39.cell? ⟨gb240, 2, none⟩ = some (.int .i64 0) := (blk_cell BK240.out 2).trans rfl; have hcz41_3 : w39.cell? ⟨gb240, 3, none⟩ = some (.slice none 0 0) := (blk_cell BK240.out 3).trans rfl; have hfz41_0 := blk_frozen BK240.out 0; have hfz41_1 := blk_frozen BK240.out 1; have hfz41_2 := blk_frozen BK240.out 2; have hfz41_3 := blk_frozen BK240.out 3))
             have n0_ : Aside0 (((((w39.setCell ⟨gb240, 0, none⟩ (.int .i64 ((rd_T33 ((rd_T100 l0 0).f2.f0) a1).f0))).setCell ⟨gb240, 1, none⟩ (.int .i64 ((rd_T33 ((rd_T100 l0 0).f2.f0) a1).f1))).setCell ⟨gb240, 2, none⟩ (.int .i64 ((rd_T33 ((rd_T100 l0 0).f2.f0) a1).f2))).setCell ⟨gb240, 3, none⟩ (.slice A239_3 ((rd_T33 ((rd_T100 l0 0).f2.f0) a1).f3).length c239_3)).heap[gb236]? = some (.cells #[.int .i64 0, .int .i64 0] 105 (0, 0))) := ⟨by (with_reducible repeat (first | refine blk_drewN ?_ _ | refine blk_drew ?_ | refine blk_alloc ?_ _)); refine blk_far ?_ NB236_240.out _; refine blk_far ?_ NB236_240.out _; refine blk_far ?_ NB236_240.out _; refine blk_far ?_ NB236_240.out _; (with_reducible repeat (first | refine blk_drewN ?_ _ | refine blk_drew ?_ | refine blk_alloc ?_ _)); exact BK236.out⟩
             have n1_ : Aside0 (((((w39.setCell ⟨gb240, 0, none⟩ (.int .i64 ((rd_T33 ((rd_T100 l0 0).f2.f0) a1).f0))).setCell ⟨gb240, 1, none⟩ (.int .i64 ((rd_T33 ((rd_T100 l0 0).f2.f0) a1).f1))).setCell ⟨gb240, 2, none⟩ (.int .i64 ((rd_T33 ((rd_T100 l0 0).f2.f0) a1).f2))).setCell ⟨gb240, 3, none⟩ (.slice A239_3 ((rd_T33 ((rd_T100 l0 0).f2.f0) a1).f3).length c239_3)).heap[gb240]? = some (.cells #[.int .i64 ((rd_T33 ((rd_T100 l0 0).f2.f0) a1).f0), .int .i64 ((rd_T33 ((rd_T100 l0 0).f2.f0) a1).f1), .int .i64 ((rd_T33 ((rd_T100 l0 0).f2.f0) a1).f2), .slice A239_3 ((rd_T33 ((rd_T100 l0 0).f2.f0) a1).f3).length c239_3] 33 (0, 0))) := ⟨by (with_reducible repeat (first | refine blk_drewN ?_ _ | refine blk_drew ?_ | refine blk_alloc ?_ _)); refine blk_put (cs := #[.int .i64 ((rd_T33 ((rd_T100 l0 0).f2.f0) a1).f0), .int .i64 ((rd_T33 ((rd_T100 l0 0).f2.f0) a1).f1), .int .i64 ((rd_T33 ((rd_T100 l0 0).f2.f0) a1).f2), .slice none 0 0]) ?_ 3 _ rfl; refine blk_put (cs := #[.int .i64 ((rd_T33 ((rd_T100 l0 0).f2.f0) a1).f0), .int .i64 ((rd_T33 ((rd_T100 l0 0).f2.f0) a1).f1), .int .i64 0, .slice none 0 0]) ?_ 2 _ rfl; refine blk_put (cs := #[.int .i64 ((rd_T33 ((rd_T100 l0 0).f2.f0) a1).f0), .int .i64 0, .int .i64 0, .slice none 0 0]) ?_ 1 _ rfl; refine blk_put (cs := #[.int .i64 0, .int .i64 0, .int .i64 0, .slice none 0 0]) ?_ 0 _ rfl; (with_reducible repeat (first | refine blk_drewN ?_ _ | refine blk_drew ?_ | refine blk_alloc ?_ _)); exact BK240.out⟩
             have n2_ : Aside0 (Below w.heap.size w ((((w39.setCell ⟨gb240, 0, none⟩ (.int .i64 ((rd_T33 ((rd_T100 l0 0).f2.f0) a1).f0))).setCell ⟨gb240, 1, none⟩ (.int .i64 ((rd_T33 ((rd_T100 l0 0).f2.f0) a1).f1))).setCell ⟨gb240, 2, none⟩ (.int .i64 ((rd_T33 ((rd_T100 l0 0).f2.f0) a1).f2))).setCell ⟨gb240, 3, none⟩ (.slice A239_3 ((rd_T33 ((rd_T100 l0 0).f2.f0) a1).f3).length c239_3))) := ⟨by repeat (first | (with_reducible first | exact HB.out | apply below_alloc | apply pw_below_drewN | apply below_drew1 | refine below_set ?_ GE236.out | refine below_set ?_ GE240.out) | exact HB.out)⟩
             (try clear BK236)
             (try clear BK240)
             (try clear HB)
             generalize ((((w39.setCell ⟨gb240, 0, none⟩ (.int .i64 ((rd_T33 ((rd_T100 l0 0).f2.f0) a1).f0))).setCell ⟨gb240, 1, none⟩ (.int .i64 ((rd_T33 ((rd_T100 l0 0).f2.f0) a1).f1))).setCell ⟨gb240, 2, none⟩ (.int .i64 ((rd_T33 ((rd_T100 l0 0).f2.f0) a1).f2))).setCell ⟨gb240, 3, none⟩ (.slice A239_3 ((rd_T33 ((rd_T100 l0 0).f2.f0) a1).f3).length c239_3)) = w42 at n0_ n1_ n2_ ⊢
             have BK236 := n0_
             have BK240 := n1_
             have HB := n2_
             clear n0_ n1_ n2_
             have n0_ := Aside0.mk (blk_drew BK236.out)
             have n1_ := Aside0.mk (blk_drew BK240.out)
             have n2_ := Aside0.mk (below_drew1 HB.out)
             clear BK236
             clear BK240
             clear HB
             have BK236 := n0_
             have BK240 := n1_
             have HB := n2_
             clear n0_ n1_ n2_
             have p245 : 0 ≤ (0 : Int) := (by omega)
             have q245 : 0 < (l0.length : Int) := of_dec
             obtain ⟨ad245, A245_0, c245_0, A245_1, c245_1, A245_2, c245_2, e245, hx245_0, hx245_1, hx245_2, hl245_0, hi245_0, hl245_1, hi245_1, hl245_2, hi245_2⟩ := at_T100 HR0.out 0 p245 q245
             have hw245_2 := hx245_2
             (try rw [show ((0 : Int)).toNat = 0 from rfl] at hw245_2)
             (try rw [show 0 * 3 = 0 from rfl] at hw245_2)
             (try rw [Addr.add_zero'] at hw245_2)
             have hw245_1 := hx245_1
             (try rw [show ((0 : Int)).toNat = 0 from rfl] at hw245_1)
             (try rw [show 0 * 3 = 0 from rfl] at hw245_1)
             (try rw [Addr.add_zero'] at hw245_1)
             have hw245_0 := hx245_0
             (try rw [show ((0 : Int)).toNat = 0 from rfl] at hw245_0)
             (try rw [show 0 * 3 = 0 from rfl] at hw245_0)
             (try rw [Addr.add_zero'] at hw245_0)
             obtain rfl : ad235 = ad245 := (by injection e245)
             have qi245 : (0 < l0.length) = True := eq_true (by omega)
             (try rw [show ((0 : Int)).toNat = 0 from rfl] at hx245_0)
             (try rw [show 0 * 3 = 0 from rfl] at hx245_0)
             (try rw [Addr.add_zero'] at hx245_0)
             (try rw [show ((0 : Int)).toNat = 0 from rfl] at hx245_1)
             (try rw [show 0 * 3 = 0 from rfl] at hx245_1)
             (try rw [Addr.add_zero'] at hx245_1)
             (try rw [show ((0 : Int)).toNat = 0 from rfl] at hx245_2)
             (try rw [show 0 * 3 = 0 from rfl] at hx245_2)
             (try rw [Addr.add_zero'] at hx245_2)
             replace hx245_0 := cell_b HB.out hx245_0
             replace hx245_1 := cell_b HB.out hx245_1
             replace hx245_2 := cell_b HB.out hx245_2
             have HR245_0 := Aside0.mk hi245_0
             have HC245_0 := Aside0.mk hl245_0
             clear hi245_0 hl245_0
             have HR245_1 := Aside0.mk hi245_1
             have HC245_1 := Aside0.mk hl245_1
             clear hi245_1 hl245_1
             have HR245_2 := Aside0.mk hi245_2
             have HC245_2 := Aside0.mk hl245_2
             clear hi245_2 hl245_2
             replace p245 := eq_true p245
             replace q245 := eq_true q245
             refine start_ (n := 9) (S := fun w' => w'.cell? ⟨gb240, 0, none⟩ = some (.int .i64 ((rd_T33 ((rd_T100 l0 0).f2.f0) a1).f0)) ∧ w'.cell? ⟨gb240, 1, none⟩ = some (.int .i64 ((rd_T33 ((rd_T100 l0 0).f2.f0) a1).f1)) ∧ w'.cell? ⟨gb240, 2, none⟩ = some (.int .i64 ((rd_T33 ((rd_T100 l0 0).f2.f0) a1).f2)) ∧ w'.cell? ⟨gb240, 3, none⟩ = some (.slice A239_3 ((rd_T33 ((rd_T100 l0 0).f2.f0) a1).f3).length c239_3) ∧ w'.cell? ad235 = some (.slice A245_0 ((rd_T100 l0 0).f0).length c245_0) ∧ w'.cell? ⟨ad235.block, ad235.off + 1, none⟩ = some (.slice A245_1 ((rd_T100 l0 0).f1).length c245_1) ∧ w'.cell? ⟨ad235.block, ad235.off + 2, none⟩ = some (.slice A245_2 ((rd_T100 l0 0).f2.f0).length c245_2)) (ds := []) #[false, false, false, false, false, false, false, false, false] (by kernel_rfl) rfl rfl ⟨(blk_cell BK240.out 0).trans rfl, (blk_cell BK240.out 1).trans rfl, (blk_cell BK240.out 2).trans rfl, (blk_cell BK240.out 3).trans rfl, (cell_b HB.out hw245_0), (cell_b HB.out hw245_1), (cell_b HB.out hw245_2)⟩ (fun hHeld => ?_); refine with_tabW view_File_Span.tab6 view_File_Span.bits6 (fun HT_ HW_ => ?_)
             generalize w42.drew = w43 at BK236 BK240 HB HR245_0 HR245_1 HR245_2 hx245_0 hx245_1 hx245_2 hHeld ⊢
             refine pure_ (i := 0) (N := some 59) (v := ?_) (a' := ?_) #[true, false, false, false, false, false, false, false, false] rfl rfl (any_of HT_.out (by kernel_rfl)) (fun _ _ _ h => h) (Or.inl ⟨by rfl, ?_⟩) ?_ ?_; rotate_left; { intro w'; go_simp; with_reducible rfl }; rotate_left; { simp only [Act.put, List.setIfInBounds_toArray, List.set_cons_zero, List.set_cons_succ, i64_w, i32_w]; rfl }
             refine pure_ (i := 2) (N := some 61) (v := ?_) (a' := ?_) #[true, false, true, false, false, false, false, false, false] rfl rfl (any_of HT_.out (by kernel_rfl)) (fun _ _ _ h => h) (Or.inl ⟨by rfl, ?_⟩) ?_ ?_; rotate_left; { intro w'; go_simp; with_reducible rfl }; rotate_left; { simp only [Act.put, List.setIfInBounds_toArray, List.set_cons_zero, List.set_cons_succ, i64_w, i32_w]; rfl }
             refine pure_ (i := 3) (N := some 62) (v := ?_) (a' := ?_) #[true, false, true, true, false, false, false, false, false] rfl rfl (any_of HT_.out (by kernel_rfl)) (fun _ _ _ h => h) (Or.inl ⟨by rfl, ?_⟩) ?_ ?_; rotate_left; { intro w'; go_simp; with_reducible rfl }; rotate_left; { simp only [Act.put, List.setIfInBounds_toArray, List.set_cons_zero, List.set_cons_succ, i64_w, i32_w]; rfl }
             refine pure_ (i := 4) (N := some 63) (v := ?_) (a' := ?_) #[true, false, true, true, true, false, false, false, false] rfl rfl (any_of HT_.out (by kernel_rfl)) (fun _ _ _ h => h) (Or.inl ⟨by rfl, ?_⟩) ?_ ?_; rotate_left; { intro w'; go_simp; with_reducible rfl }; rotate_left; { simp only [Act.put, List.setIfInBounds_toArray, List.set_cons_zero, List.set_cons_succ, i64_w, i32_w]; rfl }
             refine take_ (i := 1) (N := some 60) (v := ?_) (a' := ?_) #[true, true, true, true, true, false, false, false, false] rfl rfl (take_ofW HT_.out HW_.out (by kernel_rfl)) (fun _ _ _ h => h) (Or.inl ⟨by rfl, ?_⟩) hHeld ?_ ?_; rotate_left; { rintro w' ⟨s0, s1, s2, s3, s4, s5, s6⟩; go_simp; with_reducible rfl }; rotate_left; { simp only [Act.put, List.setIfInBounds_toArray, List.set_cons_zero, List.set_cons_succ, i64_w, i32_w]; rfl }
             refine take_ (i := 5) (N := some 64) (v := ?_) (a' := ?_) #[true, true, true, true, true, true, false, false, false] rfl rfl (take_ofW HT_.out HW_.out (by kernel_rfl)) (fun _ _ _ h => h) (Or.inl ⟨by rfl, ?_⟩) hHeld ?_ ?_; rotate_left; { rintro w' ⟨s0, s1, s2, s3, s4, s5, s6⟩; go_simp; with_reducible rfl }; rotate_left; { simp only [Act.put, List.setIfInBounds_toArray, List.set_cons_zero, List.set_cons_succ, i64_w, i32_w]; rfl }
             refine pure_ (i := 6) (N := some 65) (v := ?_) (a' := ?_) #[true, true, true, true, true, true, true, false, false] rfl rfl (any_of HT_.out (by kernel_rfl)) (fun _ _ _ h => h) (Or.inl ⟨by rfl, ?_⟩) ?_ ?_; rotate_left; { intro w'; go_simp; with_reducible rfl }; rotate_left; { simp only [Act.put, List.setIfInBounds_toArray, List.set_cons_zero, List.set_cons_succ, i64_w, i32_w]; rfl }
             refine pure_ (i := 7) (N := some 66) (v := ?_) (a' := ?_) #[true, true, true, true, true, true, true, true, false] rfl rfl (any_of HT_.out (by kernel_rfl)) (fun _ _ _ h => h) (Or.inl ⟨by rfl, ?_⟩) ?_ ?_; rotate_left; { intro w'; go_simp; with_reducible rfl }; rotate_left; { simp only [Act.put, List.setIfInBounds_toArray, List.set_cons_zero, List.set_cons_succ, i64_w, i32_w]; rfl }
             refine pure_ (i := 8) (N := some 58) (v := ?_) (a' := ?_) #[true, true, true, true, true, true, true, true, true] rfl rfl (any_of HT_.out (by kernel_rfl)) (fun _ _ _ h => h) (Or.inl ⟨by rfl, ?_⟩) ?_ ?_; rotate_left; { intro w'; go_simp; with_reducible rfl }; rotate_left; { simp only [Act.put, List.setIfInBounds_toArray, List.set_cons_zero, List.set_cons_succ, i64_w, i32_w]; rfl }
             refine done_ (done_of HT_.out (by kernel_rfl)) ?_
             have p250 : 0 ≤ (0 : Int) := (by omega)
             have q250 : 0 < (l0.length : Int) := of_dec
             obtain ⟨ad250, A250_0, c250_0, A250_1, c250_1, A250_2, c250_2, e250, hx250_0, hx250_1, hx250_2, hl250_0, hi250_0, hl250_1, hi250_1, hl250_2, hi250_2⟩ := at_T100 HR0.out 0 p250 q250
             obtain rfl : ad235 = ad250 := (by injection e250)
             have qi250 : (0 < l0.length) = True := eq_true (by omega)
             (try rw [show ((0 : Int)).toNat = 0 from rfl] at hx250_0)
             (try rw [show 0 * 3 = 0 from rfl] at hx250_0)
             (try rw [Addr.add_zero'] at hx250_0)
             (try rw [show ((0 : Int)).toNat = 0 from rfl] at hx250_1)
             (try rw [show 0 * 3 = 0 from rfl] at hx250_1)
             (try rw [Addr.add_zero'] at hx250_1)
             (try rw [show ((0 : Int)).toNat = 0 from rfl] at hx250_2)
             (try rw [show 0 * 3 = 0 from rfl] at hx250_2)
             (try rw [Addr.add_zero'] at hx250_2)
             replace hx250_0 := cell_b HB.out hx250_0
             replace hx250_1 := cell_b HB.out hx250_1
             replace hx250_2 := cell_b HB.out hx250_2
             have HR250_0 := Aside0.mk hi250_0
             have HC250_0 := Aside0.mk hl250_0
             clear hi250_0 hl250_0
             have HR250_1 := Aside0.mk hi250_1
             have HC250_1 := Aside0.mk hl250_1
             clear hi250_1 hl250_1
             have HR250_2 := Aside0.mk hi250_2
             have HC250_2 := Aside0.mk hl250_2
             clear hi250_2 hl250_2
             replace p250 := eq_true p250
             replace q250 := eq_true q250
             have ea_ := Option.some.inj (hx245_0.symm.trans hx250_0)
             injection ea_ with ea_ en_ ec_
             subst ea_
             subst ec_
             clear en_
             have ea_ := Option.some.inj (hx245_1.symm.trans hx250_1)
             injection ea_ with ea_ en_ ec_
             subst ea_
             subst ec_
             clear en_
             have ea_ := Option.some.inj (hx245_2.symm.trans hx250_2)
             injection ea_ with ea_ en_ ec_
             subst ea_
             subst ec_
             clear en_
             try go_wp2
             have n0_ := Aside0.mk (blk_drew BK236.out)
             have n1_ := Aside0.mk (blk_drew BK240.out)
             have n2_ := Aside0.mk (below_drew1 HB.out)
             clear BK236
             clear BK240
             clear HB
             have BK236 := n0_
             have BK240 := n1_
             have HB := n2_
             clear n0_ n1_ n2_
             have p251 : 0 ≤ (0 : Int) := (by omega)
             have q251 : 0 < (l0.length : Int) := of_dec
             obtain ⟨ad251, A251_0, c251_0, A251_1, c251_1, A251_2, c251_2, e251, hx251_0, hx251_1, hx251_2, hl251_0, hi251_0, hl251_1, hi251_1, hl251_2, hi251_2⟩ := at_T100 HR0.out 0 p251 q251
             have hw251_2 := hx251_2
             (try rw [show ((0 : Int)).toNat = 0 from rfl] at hw251_2)
             (try rw [show 0 * 3 = 0 from rfl] at hw251_2)
             (try rw [Addr.add_zero'] at hw251_2)
             have hw251_1 := hx251_1
             (try rw [show ((0 : Int)).toNat = 0 from rfl] at hw251_1)
             (try rw [show 0 * 3 = 0 from rfl] at hw251_1)
             (try rw [Addr.add_zero'] at hw251_1)
             have hw251_0 := hx251_0
             (try rw [show ((0 : Int)).toNat = 0 from rfl] at hw251_0)
             (try rw [show 0 * 3 = 0 from rfl] at hw251_0)
             (try rw [Addr.add_zero'] at hw251_0)
             obtain rfl : ad235 = ad251 := (by injection e251)
             have qi251 : (0 < l0.length) = True := eq_true (by omega)
             (try rw [show ((0 : Int)).toNat = 0 from rfl] at hx251_0)
             (try rw [show 0 * 3 = 0 from rfl] at hx251_0)
             (try rw [Addr.add_zero'] at hx251_0)
             (try rw [show ((0 : Int)).toNat = 0 from rfl] at hx251_1)
             (try rw [show 0 * 3 = 0 from rfl] at hx251_1)
             (try rw [Addr.add_zero'] at hx251_1)
             (try rw [show ((0 : Int)).toNat = 0 from rfl] at hx251_2)
             (try rw [show 0 * 3 = 0 from rfl] at hx251_2)
             (try rw [Addr.add_zero'] at hx251_2)
             replace hx251_0 := cell_b HB.out hx251_0
             replace hx251_1 := cell_b HB.out hx251_1
             replace hx251_2 := cell_b HB.out hx251_2
             have HR251_0 := Aside0.mk hi251_0
             have HC251_0 := Aside0.mk hl251_0
             clear hi251_0 hl251_0
             have HR251_1 := Aside0.mk hi251_1
             have HC251_1 := Aside0.mk hl251_1
             clear hi251_1 hl251_1
             have HR251_2 := Aside0.mk hi251_2
             have HC251_2 := Aside0.mk hl251_2
             clear hi251_2 hl251_2
             replace p251 := eq_true p251
             replace q251 := eq_true q251
             have p252 : 0 ≤ (0 : Int) := (by omega)
             have q252 : 0 < (l0.length : Int) := of_dec
             obtain ⟨ad252, A252_0, c252_0, A252_1, c252_1, A252_2, c252_2, e252, hx252_0, hx252_1, hx252_2, hl252_0, hi252_0, hl252_1, hi252_1, hl252_2, hi252_2⟩ := at_T100 HR0.out 0 p252 q252
             have hw252_2 := hx252_2
             (try rw [show ((0 : Int)).toNat = 0 from rfl] at hw252_2)
             (try rw [show 0 * 3 = 0 from rfl] at hw252_2)
             (try rw [Addr.add_zero'] at hw252_2)
             have hw252_1 := hx252_1
             (try rw [show ((0 : Int)).toNat = 0 from rfl] at hw252_1)
             (try rw [show 0 * 3 = 0 from rfl] at hw252_1)
             (try rw [Addr.add_zero'] at hw252_1)
             have hw252_0 := hx252_0
             (try rw [show ((0 : Int)).toNat = 0 from rfl] at hw252_0)
             (try rw [show 0 * 3 = 0 from rfl] at hw252_0)
             (try rw [Addr.add_zero'] at hw252_0)
             obtain rfl : ad235 = ad252 := (by injection e252)
             have qi252 : (0 < l0.length) = True := eq_true (by omega)
             (try rw [show ((0 : Int)).toNat = 0 from rfl] at hx252_0)
             (try rw [show 0 * 3 = 0 from rfl] at hx252_0)
             (try rw [Addr.add_zero'] at hx252_0)
             (try rw [show ((0 : Int)).toNat = 0 from rfl] at hx252_1)
             (try rw [show 0 * 3 = 0 from rfl] at hx252_1)
             (try rw [Addr.add_zero'] at hx252_1)
             (try rw [show ((0 : Int)).toNat = 0 from rfl] at hx252_2)
             (try rw [show 0 * 3 = 0 from rfl] at hx252_2)
             (try rw [Addr.add_zero'] at hx252_2)
             replace hx252_0 := cell_b HB.out hx252_0
             replace hx252_1 := cell_b HB.out hx252_1
             replace hx252_2 := cell_b HB.out hx252_2
             have HR252_0 := Aside0.mk hi252_0
             have HC252_0 := Aside0.mk hl252_0
             clear hi252_0 hl252_0
             have HR252_1 := Aside0.mk hi252_1
             have HC252_1 := Aside0.mk hl252_1
             clear hi252_1 hl252_1
             have HR252_2 := Aside0.mk hi252_2
             have HC252_2 := Aside0.mk hl252_2
             clear hi252_2 hl252_2
             replace p252 := eq_true p252
             replace q252 := eq_true q252
             have ea_ := Option.some.inj (hx251_0.symm.trans hx252_0)
             injection ea_ with ea_ en_ ec_
             subst ea_
             subst ec_
             clear en_
             have ea_ := Option.some.inj (hx251_1.symm.trans hx252_1)
             injection ea_ with ea_ en_ ec_
             subst ea_
             subst ec_
             clear en_
             have ea_ := Option.some.inj (hx251_2.symm.trans hx252_2)
             injection ea_ with ea_ en_ ec_
             subst ea_
             subst ec_
             clear en_
             have p253 : 0 ≤ ((ji36) : Int) := of_dec
             have q253 : (ji36) < (((rd_T100 l0 0).f1).length : Int) := of_dec
             obtain ⟨ad253, e253, hx253_0, hx253_1, hx253_2, hx253_3, hx253_4⟩ := at_T103 HR251_1.out (ji36) p253 q253
             have hw253_4 := hx253_4
             have hw253_3 := hx253_3
             have hw253_2 := hx253_2
             have hw253_1 := hx253_1
             have hw253_0 := hx253_0
             cases e253
             replace hx253_0 := cell_b HB.out hx253_0
             replace hx253_1 := cell_b HB.out hx253_1
             replace hx253_2 := cell_b HB.out hx253_2
             replace hx253_3 := cell_b HB.out hx253_3
             replace hx253_4 := cell_b HB.out hx253_4
             replace p253 := eq_true p253
             replace q253 := eq_true q253
             refine start_ (n := 14) (S := fun w' => w'.cell? ad235 = some (.slice A251_0 ((rd_T100 l0 0).f0).length c251_0) ∧ w'.cell? ⟨ad235.block, ad235.off + 1, none⟩ = some (.slice (some ad253) ((rd_T100 l0 0).f1).length c251_1) ∧ w'.cell? ⟨ad235.block, ad235.off + 2, none⟩ = some (.slice A251_2 ((rd_T100 l0 0).f2.f0).length c251_2) ∧ w'.cell? ad235 = some (.slice A251_0 ((rd_T100 l0 0).f0).length c251_0) ∧ w'.cell? ⟨ad235.block, ad235.off + 1, none⟩ = some (.slice (some ad253) ((rd_T100 l0 0).f1).length c251_1) ∧ w'.cell? ⟨ad235.block, ad235.off + 2, none⟩ = some (.slice A251_2 ((rd_T100 l0 0).f2.f0).length c251_2) ∧ w'.cell? (ad253.add (((ji36)).toNat * 5)) = some (.int .i64 ((rd_T103 ((rd_T100 l0 0).f1) (ji36)).f0)) ∧ w'.cell? ⟨(ad253.add (((ji36)).toNat * 5)).block, (ad253.add (((ji36)).toNat * 5)).off + 1, none⟩ = some (.int .i64 ((rd_T103 ((rd_T100 l0 0).f1) (ji36)).f1)) ∧ w'.cell? ⟨(ad253.add (((ji36)).toNat * 5)).block, (ad253.add (((ji36)).toNat * 5)).off + 2, none⟩ = some (.int .i64 ((rd_T103 ((rd_T100 l0 0).f1) (ji36)).f2)) ∧ w'.cell? ⟨(ad253.add (((ji36)).toNat * 5)).block, (ad253.add (((ji36)).toNat * 5)).off + 3, none⟩ = some (.bool ((rd_T103 ((rd_T100 l0 0).f1) (ji36)).f3)) ∧ w'.cell? ⟨(ad253.add (((ji36)).toNat * 5)).block, (ad253.add (((ji36)).toNat * 5)).off + 4, none⟩ = some (.int .i64 ((rd_T103 ((rd_T100 l0 0).f1) (ji36)).f4))) (ds := []) #[false, false, false, false, false, false, false, false, false, false, false, false, false, false] (by kernel_rfl) rfl rfl ⟨(cell_b HB.out hw251_0), (cell_b HB.out hw251_1), (cell_b HB.out hw251_2), (cell_b HB.out hw252_0), (cell_b HB.out hw252_1), (cell_b HB.out hw252_2), (cell_b HB.out hw253_0), (cell_b HB.out hw253_1), (cell_b HB.out hw253_2), (cell_b HB.out hw253_3), (cell_b HB.out hw253_4)⟩ (fun hHeld => ?_); refine with_tabW view_File_Span.tab9 view_File_Span.bits9 (fun HT_ HW_ => ?_)
             generalize w43.drew = w44 at BK236 BK240 HB HR251_0 HR251_1 HR251_2 HR252_0 HR252_1 HR252_2 hx251_0 hx251_1 hx251_2 hx252_0 hx252_1 hx252_2 hx253_0 hx253_1 hx253_2 hx253_3 hx253_4 hHeld ⊢
             refine pure_ (i := 0) (N := some 93) (v := ?_) (a' := ?_) (bl_ 14 1) rfl rfl (any_of HT_.out (by kernel_rfl)) (fun _ _ _ h => h) (Or.inl ⟨by rfl, ?_⟩) ?_ ?_; rotate_left; { intro w'; go_simp; with_reducible rfl }; rotate_left; { simp only [Act.put, List.setIfInBounds_toArray, List.set_cons_zero, List.set_cons_succ, i64_w, i32_w]; rfl }
             refine pure_ (i := 1) (N := some 94) (v := ?_) (a' := ?_) (bl_ 14 3) rfl rfl (any_of HT_.out (by kernel_rfl)) (fun _ _ _ h => h) (Or.inl ⟨by rfl, ?_⟩) ?_ ?_; rotate_left; { intro w'; go_simp; with_reducible rfl }; rotate_left; { simp only [Act.put, List.setIfInBounds_toArray, List.set_cons_zero, List.set_cons_succ, i64_w, i32_w]; rfl }
             refine pure_ (i := 2) (N := some 95) (v := ?_) (a' := ?_) (bl_ 14 7) rfl rfl (any_of HT_.out (by kernel_rfl)) (fun _ _ _ h => h) (Or.inl ⟨by rfl, ?_⟩) ?_ ?_; rotate_left; { intro w'; go_simp; with_reducible rfl }; rotate_left; { simp only [Act.put, List.setIfInBounds_toArray, List.set_cons_zero, List.set_cons_succ, i64_w, i32_w]; rfl }
             refine pure_ (i := 4) (N := some 97) (v := ?_) (a' := ?_) (bl_ 14 23) rfl rfl (any_of HT_.out (by kernel_rfl)) (fun _ _ _ h => h) (Or.inl ⟨by rfl, ?_⟩) ?_ ?_; rotate_left; { intro w'; go_simp; with_reducible rfl }; rotate_left; { simp only [Act.put, List.setIfInBounds_toArray, List.set_cons_zero, List.set_cons_succ, i64_w, i32_w]; rfl }
             refine pure_ (i := 5) (N := some 98) (v := ?_) (a' := ?_) (bl_ 14 55) rfl rfl (any_of HT_.out (by kernel_rfl)) (fun _ _ _ h => h) (Or.inl ⟨by rfl, ?_⟩) ?_ ?_; rotate_left; { intro w'; go_simp; with_reducible rfl }; rotate_left; { simp only [Act.put, List.setIfInBounds_toArray, List.set_cons_zero, List.set_cons_succ, i64_w, i32_w]; rfl }
             refine pure_ (i := 6) (N := some 99) (v := ?_) (a' := ?_) (bl_ 14 119) rfl rfl (any_of HT_.out (by kernel_rfl)) (fun _ _ _ h => h) (Or.inl ⟨by rfl, ?_⟩) ?_ ?_; rotate_left; { intro w'; go_simp; with_reducible rfl }; rotate_left; { simp only [Act.put, List.setIfInBounds_toArray, List.set_cons_zero, List.set_cons_succ, i64_w, i32_w]; rfl }
             refine take_ (i := 3) (N := some 96) (v := ?_) (a' := ?_) (bl_ 14 127) rfl rfl (take_ofW HT_.out HW_.out (by kernel_rfl)) (fun _ _ _ h => h) (Or.inl ⟨by rfl, ?_⟩) hHeld ?_ ?_; rotate_left; { rintro w' ⟨s0, s1, s2, s3, s4, s5, s6, s7, s8, s9, s10⟩; go_simp; with_reducible rfl }; rotate_left; { simp only [Act.put, List.setIfInBounds_toArray, List.set_cons_zero, List.set_cons_succ, i64_w, i32_w]; rfl }
             refine take_ (i := 7) (N := some 100) (v := ?_) (a' := ?_) (bl_ 14 255) rfl rfl (take_ofW HT_.out HW_.out (by kernel_rfl)) (fun _ _ _ h => h) (Or.inl ⟨by rfl, ?_⟩) hHeld ?_ ?_; rotate_left; { rintro w' ⟨s0, s1, s2, s3, s4, s5, s6, s7, s8, s9, s10⟩; go_simp; with_reducible rfl }; rotate_left; { simp only [Act.put, List.setIfInBounds_toArray, List.set_cons_zero, List.set_cons_succ, i64_w, i32_w]; rfl }
             refine pure_ (i := 8) (N := some 101) (v := ?_) (a' := ?_) (bl_ 14 511) rfl rfl (any_of HT_.out (by kernel_rfl)) (fun _ _ _ h => h) (Or.inl ⟨by rfl, ?_⟩) ?_ ?_; rotate_left; { intro w'; go_simp; with_reducible rfl }; rotate_left; { simp only [Act.put, List.setIfInBounds_toArray, List.set_cons_zero, List.set_cons_succ, i64_w, i32_w]; rfl }
             refine pure_ (i := 9) (N := some 102) (v := ?_) (a' := ?_) (bl_ 14 1023) rfl rfl (any_of HT_.out (by kernel_rfl)) (fun _ _ _ h => h) (Or.inl ⟨by rfl, ?_⟩) ?_ ?_; rotate_left; { intro w'; go_simp; with_reducible rfl }; rotate_left; { simp only [Act.put, List.setIfInBounds_toArray, List.set_cons_zero, List.set_cons_succ, i64_w, i32_w]; rfl }
             refine pure_ (i := 10) (N := some 103) (v := ?_) (a' := ?_) (bl_ 14 2047) rfl rfl (any_of HT_.out (by kernel_rfl)) (fun _ _ _ h => h) (Or.inl ⟨by rfl, ?_⟩) ?_ ?_; rotate_left; { intro w'; go_simp; with_reducible rfl }; rotate_left; { simp only [Act.put, List.setIfInBounds_toArray, List.set_cons_zero, List.set_cons_succ, i64_w, i32_w]; rfl }
             refine pure_ (i := 11) (N := some 104) (v := ?_) (a' := ?_) (bl_ 14 4095) rfl rfl (any_of HT_.out (by kernel_rfl)) (fun _ _ _ h => h) (Or.inl ⟨by rfl, ?_⟩) ?_ ?_; rotate_left; { intro w'; go_simp; with_reducible rfl }; rotate_left; { simp only [Act.put, List.setIfInBounds_toArray, List.set_cons_zero, List.set_cons_succ, i64_w, i32_w]; rfl }
             refine take_ (i := 12) (N := some 105) (v := ?_) (a' := ?_) (bl_ 14 8191) rfl rfl (take_ofW HT_.out HW_.out (by kernel_rfl)) (fun _ _ _ h => h) (Or.inl ⟨by rfl, ?_⟩) hHeld ?_ ?_; rotate_left; { rintro w' ⟨s0, s1, s2, s3, s4, s5, s6, s7, s8, s9, s10⟩; go_simp; with_reducible rfl }; rotate_left; { simp only [Act.put, List.setIfInBounds_toArray, List.set_cons_zero, List.set_cons_succ, i64_w, i32_w]; rfl }
             refine pure_ (i := 13) (N := some 6) (v := ?_) (a' := ?_) (bl_ 14 16383) rfl rfl (any_of HT_.out (by kernel_rfl)) (fun _ _ _ h => h) (Or.inl ⟨by rfl, ?_⟩) ?_ ?_; rotate_left; { intro w'; go_simp; with_reducible rfl }; rotate_left; { simp only [Act.put, List.setIfInBounds_toArray, List.set_cons_zero, List.set_cons_succ, i64_w, i32_w]; rfl }
             refine done_ (done_of HT_.out (by kernel_rfl)) ?_
             have hcz45_0 : w44.cell? ⟨gb236, 0, none⟩ = some (.int .i64 0) := (blk_cell BK236.out 0).trans rfl
             have hcz45_1 : w44.cell? ⟨gb236, 1, none⟩ = some (.int .i64 0) := (blk_cell BK236.out 1).trans rfl
             have hfz45_0 := blk_frozen BK236.out 0
             have hfz45_1 := blk_frozen BK236.out 1
             try go_wp2
             refine bodyPost_ret (results_cell_row rfl _ _ gb236 105 #[.int .i64 ((rd_T103 ((rd_T100 l0 0).f1) (ji36)).f2), .int .i64 ((rd_T103 ((rd_T100 l0 0).f1) (ji36)).f2)] (0, 0) _ rfl (by (with_reducible repeat (first | refine blk_drewN ?_ _ | refine blk_drew ?_ | refine blk_alloc ?_ _)); refine blk_put (cs := #[.int .i64 ((rd_T103 ((rd_T100 l0 0).f1) (ji36)).f2), .int .i64 0]) ?_ 1 _ rfl; refine blk_put (cs := #[.int .i64 0, .int .i64 0]) ?_ 0 _ rfl; (with_reducible repeat (first | refine blk_drewN ?_ _ | refine blk_drew ?_ | refine blk_alloc ?_ _)); exact BK236.out) Tryd.underlying105 rfl (by kernel_rfl)) rfl ?_
             exact ⟨by first | rfl | (simp [errW_none, errW_some, erT_no, erV_no, erT_at, erV_at] <;> rfl) | (simp only [← hji36]; first | rfl | (simp [errW_none, errW_some, erT_no, erV_no, erT_at, erV_at] <;> rfl)) | (simp [*, errW_none, errW_some, erT_no, erV_no, erT_at, erV_at] <;> rfl), by repeat (first | (with_reducible first | exact HB.out | apply below_alloc | apply pw_below_drewN | apply below_drew1 | refine below_set ?_ GE236.out | refine below_set ?_ GE240.out) | exact HB.out)⟩
            ·rw [if_neg c38] at H
             exact absurd H (by simp)
           ·rw [if_neg c37] at H
            exact absurd H (by simp)
          ·rw [if_neg c35] at H
           have c35b0 : decide (0 < (((rd_T100 l0 0).f1).length : Int)) = false := decide_eq_false c35
           have c35b1 : decide (0 < ((rd_T100 l0 0).f1).length) = false := decide_eq_false (by omega)
           clear c35
           simp only [Option.some.injEq, Prod.mk.injEq] at H
           obtain ⟨rfl, rfl⟩ := H
           have p238 : 0 ≤ (0 : Int) := (by omega)
           have q238 : 0 < (l0.length : Int) := of_dec
           obtain ⟨ad238, A238_0, c238_0, A238_1, c238_1, A238_2, c238_2, e238, hx238_0, hx238_1, hx238_2, hl238_0, hi238_0, hl238_1, hi238_1, hl238_2, hi238_2⟩ := at_T100 HR0.out 0 p238 q238
           obtain rfl : ad235 = ad238 := (by injection e238)
           have qi238 : (0 < l0.length) = True := eq_true (by omega)
           (try rw [show ((0 : Int)).toNat = 0 from rfl] at hx238_0)
           (try rw [show 0 * 3 = 0 from rfl] at hx238_0)
           (try rw [Addr.add_zero'] at hx238_0)
           (try rw [show ((0 : Int)).toNat = 0 from rfl] at hx238_1)
           (try rw [show 0 * 3 = 0 from rfl] at hx238_1)
           (try rw [Addr.add_zero'] at hx238_1)
           (try rw [show ((0 : Int)).toNat = 0 from rfl] at hx238_2)
           (try rw [show 0 * 3 = 0 from rfl] at hx238_2)
           (try rw [Addr.add_zero'] at hx238_2)
           replace hx238_0 := cell_b HB.out hx238_0
           replace hx238_1 := cell_b HB.out hx238_1
           replace hx238_2 := cell_b HB.out hx238_2
           have HR238_0 := Aside0.mk hi238_0
           have HC238_0 := Aside0.mk hl238_0
           clear hi238_0 hl238_0
           have HR238_1 := Aside0.mk hi238_1
           have HC238_1 := Aside0.mk hl238_1
           clear hi238_1 hl238_1
           have HR238_2 := Aside0.mk hi238_2
           have HC238_2 := Aside0.mk hl238_2
           clear hi238_2 hl238_2
           replace p238 := eq_true p238
           replace q238 := eq_true q238
           have p239 : 0 ≤ (a1 : Int) := of_dec
           have q239 : a1 < (((rd_T100 l0 0).f2.f0).length : Int) := of_dec
           obtain ⟨ad239, A239_3, c239_3, e239, hx239_0, hx239_1, hx239_2, hx239_3, hl239_3, hi239_3⟩ := at_T33 HR238_2.out a1 p239 q239
           cases e239
           replace hx239_0 := cell_b HB.out hx239_0
           replace hx239_1 := cell_b HB.out hx239_1
           replace hx239_2 := cell_b HB.out hx239_2
           replace hx239_3 := cell_b HB.out hx239_3
           have HR239_3 := Aside0.mk hi239_3
           have HC239_3 := Aside0.mk hl239_3
           clear hi239_3 hl239_3
           replace p239 := eq_true p239
           replace q239 := eq_true q239
           try go_wp2_with (first | ((with_reducible refine gate_dst (N := 5) rfl ?_); (try (refine gate_guard (by rfl) ?_; dsimp only)); refine box_event ?hg (N := 5) ?hd (cs := #[.int .i64 0, .int .i64 0, .int .i64 0, .slice none 0 0]) (t := 33) ?hr ?_; (case hd => rfl); (case hg => rfl); (case hr => first | (go_simp; done) | (go_simp; rfl)); intro gb240 hg w46 hbox hb; have n0_ := Aside0.mk (blk_below (g := gb236) (o := .cells #[.int .i64 0, .int .i64 0] 105 (0, 0)) (go_k BK236.out) hb); have n1_ := Aside0.mk (below_step (go_b1 HB.out GE236.out) hb); have n2_ := Aside0.mk (hbox); have n3_ := Aside0.mk ((by rw [hg]; exact (below_size (go_b1 HB.out GE236.out)) : w.heap.size ≤ gb240)); have n4_ := n3_; have n5_ := Aside0.mk ((by rw [hg]; exact Nat.ne_of_lt (blk_lt (g := gb236) (o := .cells #[.int .i64 0, .int .i64 0] 105 (0, 0)) (go_k BK236.out)) : gb236 ≠ gb240)); have n6_ := Aside0.mk ((by rw [hg]; exact Nat.ne_of_gt (blk_lt (g := gb236) (o := .cells #[.int .i64 0, .int .i64 0] 105 (0, 0)) (go_k BK236.out)) : gb240 ≠ gb236)); clear BK236; clear HB; have BK236 := n0_; have HB := n1_; have BK240 := n2_; have GW240 := n3_; have GE240 := n4_; have NB236_240 := n5_; have NB240_236 := n6_; clear n0_ n1_ n2_ n3_ n4_ n5_ n6_; clear hb hbox hg; have hnb47 := NB240_236.out; have hnc47 := NB236_240.out; have hcz48_0 : w46.cell? ⟨gb240, 0, none⟩ = some (.int .i64 0) := (blk_cell BK240.out 0).trans rfl; have hcz48_1 : w46.cell? ⟨gb240, 1, none⟩ = some (.int .i64 0) := (blk_cell BK240.out 1).trans rfl; have hcz48_2 : w46.cell? ⟨gb240, 2, none⟩ = some (.int .i64 0) := (blk_cell BK240.out 2).trans rfl; have hcz48_3 : w46.cell? ⟨gb240, 3, none⟩ = some (.slice none 0 0) := (blk_cell BK240.out 3).trans rfl; have hfz48_0 := blk_frozen BK240.out 0; have hfz48_1 := blk_frozen BK240.out 1; have hfz48_2 := blk_frozen BK240.out 2; have hfz48_3 := blk_frozen BK240.out 3))
           have n0_ : Aside0 (((((w46.setCell ⟨gb240, 0, none⟩ (.int .i64 ((rd_T33 ((rd_T100 l0 0).f2.f0) a1).f0))).setCell ⟨gb240, 1, none⟩ (.int .i64 ((rd_T33 ((rd_T100 l0 0).f2.f0) a1).f1))).setCell ⟨gb240, 2, none⟩ (.int .i64 ((rd_T33 ((rd_T100 l0 0).f2.f0) a1).f2))).setCell ⟨gb240, 3, none⟩ (.slice A239_3 ((rd_T33 ((rd_T100 l0 0).f2.f0) a1).f3).length c239_3)).heap[gb236]? = some (.cells #[.int .i64 0, .int .i64 0] 105 (0, 0))) := ⟨by (with_reducible repeat (first | refine blk_drewN ?_ _ | refine blk_drew ?_ | refine blk_alloc ?_ _)); refine blk_far ?_ NB236_240.out _; refine blk_far ?_ NB236_240.out _; refine blk_far ?_ NB236_240.out _; refine blk_far ?_ NB236_240.out _; (with_reducible repeat (first | refine blk_drewN ?_ _ | refine blk_drew ?_ | refine blk_alloc ?_ _)); exact BK236.out⟩
           have n1_ : Aside0 (((((w46.setCell ⟨gb240, 0, none⟩ (.int .i64 ((rd_T33 ((rd_T100 l0 0).f2.f0) a1).f0))).setCell ⟨gb240, 1, none⟩ (.int .i64 ((rd_T33 ((rd_T100 l0 0).f2.f0) a1).f1))).setCell ⟨gb240, 2, none⟩ (.int .i64 ((rd_T33 ((rd_T100 l0 0).f2.f0) a1).f2))).setCell ⟨gb240, 3, none⟩ (.slice A239_3 ((rd_T33 ((rd_T100 l0 0).f2.f0) a1).f3).length c239_3)).heap[gb240]? = some (.cells #[.int .i64 ((rd_T33 ((rd_T100 l0 0).f2.f0) a1).f0), .int .i64 ((rd_T33 ((rd_T100 l0 0).f2.f0) a1).f1), .int .i64 ((rd_T33 ((rd_T100 l0 0).f2.f0) a1).f2), .slice A239_3 ((rd_T33 ((rd_T100 l0 0).f2.f0) a1).f3).length c239_3] 33 (0, 0))) := ⟨by (with_reducible repeat (first | refine blk_drewN ?_ _ | refine blk_drew ?_ | refine blk_alloc ?_ _)); refine blk_put (cs := #[.int .i64 ((rd_T33 ((rd_T100 l0 0).f2.f0) a1).f0), .int .i64 ((rd_T33 ((rd_T100 l0 0).f2.f0) a1).f1), .int .i64 ((rd_T33 ((rd_T100 l0 0).f2.f0) a1).f2), .slice none 0 0]) ?_ 3 _ rfl; refine blk_put (cs := #[.int .i64 ((rd_T33 ((rd_T100 l0 0).f2.f0) a1).f0), .int .i64 ((rd_T33 ((rd_T100 l0 0).f2.f0) a1).f1), .int .i64 0, .slice none 0 0]) ?_ 2 _ rfl; refine blk_put (cs := #[.int .i64 ((rd_T33 ((rd_T100 l0 0).f2.f0) a1).f0), .int .i64 0, .int .i64 0, .slice none 0 0]) ?_ 1 _ rfl; refine blk_put (cs := #[.int .i64 0, .int .i64 0, .int .i64 0, .slice none 0 0]) ?_ 0 _ rfl; (with_reducible repeat (first | refine blk_drewN ?_ _ | refine blk_drew ?_ | refine blk_alloc ?_ _)); exact BK240.out⟩
           have n2_ : Aside0 (Below w.heap.size w ((((w46.setCell ⟨gb240, 0, none⟩ (.int .i64 ((rd_T33 ((rd_T100 l0 0).f2.f0) a1).f0))).setCell ⟨gb240, 1, none⟩ (.int .i64 ((rd_T33 ((rd_T100 l0 0).f2.f0) a1).f1))).setCell ⟨gb240, 2, none⟩ (.int .i64 ((rd_T33 ((rd_T100 l0 0).f2.f0) a1).f2))).setCell ⟨gb240, 3, none⟩ (.slice A239_3 ((rd_T33 ((rd_T100 l0 0).f2.f0) a1).f3).length c239_3))) := ⟨by repeat (first | (with_reducible first | exact HB.out | apply below_alloc | apply pw_below_drewN | apply below_drew1 | refine below_set ?_ GE236.out | refine below_set ?_ GE240.out) | exact HB.out)⟩
           (try clear BK236)
           (try clear BK240)
           (try clear HB)
           generalize ((((w46.setCell ⟨gb240, 0, none⟩ (.int .i64 ((rd_T33 ((rd_T100 l0 0).f2.f0) a1).f0))).setCell ⟨gb240, 1, none⟩ (.int .i64 ((rd_T33 ((rd_T100 l0 0).f2.f0) a1).f1))).setCell ⟨gb240, 2, none⟩ (.int .i64 ((rd_T33 ((rd_T100 l0 0).f2.f0) a1).f2))).setCell ⟨gb240, 3, none⟩ (.slice A239_3 ((rd_T33 ((rd_T100 l0 0).f2.f0) a1).f3).length c239_3)) = w49 at n0_ n1_ n2_ ⊢
           have BK236 := n0_
           have BK240 := n1_
           have HB := n2_
           clear n0_ n1_ n2_
           have n0_ := Aside0.mk (blk_drew BK236.out)
           have n1_ := Aside0.mk (blk_drew BK240.out)
           have n2_ := Aside0.mk (below_drew1 HB.out)
           clear BK236
           clear BK240
           clear HB
           have BK236 := n0_
           have BK240 := n1_
           have HB := n2_
           clear n0_ n1_ n2_
           have p245 : 0 ≤ (0 : Int) := (by omega)
           have q245 : 0 < (l0.length : Int) := of_dec
           obtain ⟨ad245, A245_0, c245_0, A245_1, c245_1, A245_2, c245_2, e245, hx245_0, hx245_1, hx245_2, hl245_0, hi245_0, hl245_1, hi245_1, hl245_2, hi245_2⟩ := at_T100 HR0.out 0 p245 q245
           have hw245_2 := hx245_2
           (try rw [show ((0 : Int)).toNat = 0 from rfl] at hw245_2)
           (try rw [show 0 * 3 = 0 from rfl] at hw245_2)
           (try rw [Addr.add_zero'] at hw245_2)
           have hw245_1 := hx245_1
           (try rw [show ((0 : Int)).toNat = 0 from rfl] at hw245_1)
           (try rw [show 0 * 3 = 0 from rfl] at hw245_1)
           (try rw [Addr.add_zero'] at hw245_1)
           have hw245_0 := hx245_0
           (try rw [show ((0 : Int)).toNat = 0 from rfl] at hw245_0)
           (try rw [show 0 * 3 = 0 from rfl] at hw245_0)
           (try rw [Addr.add_zero'] at hw245_0)
           obtain rfl : ad235 = ad245 := (by injection e245)
           have qi245 : (0 < l0.length) = True := eq_true (by omega)
           (try rw [show ((0 : Int)).toNat = 0 from rfl] at hx245_0)
           (try rw [show 0 * 3 = 0 from rfl] at hx245_0)
           (try rw [Addr.add_zero'] at hx245_0)
           (try rw [show ((0 : Int)).toNat = 0 from rfl] at hx245_1)
           (try rw [show 0 * 3 = 0 from rfl] at hx245_1)
           (try rw [Addr.add_zero'] at hx245_1)
           (try rw [show ((0 : Int)).toNat = 0 from rfl] at hx245_2)
           (try rw [show 0 * 3 = 0 from rfl] at hx245_2)
           (try rw [Addr.add_zero'] at hx245_2)
           replace hx245_0 := cell_b HB.out hx245_0
           replace hx245_1 := cell_b HB.out hx245_1
           replace hx245_2 := cell_b HB.out hx245_2
           have HR245_0 := Aside0.mk hi245_0
           have HC245_0 := Aside0.mk hl245_0
           clear hi245_0 hl245_0
           have HR245_1 := Aside0.mk hi245_1
           have HC245_1 := Aside0.mk hl245_1
           clear hi245_1 hl245_1
           have HR245_2 := Aside0.mk hi245_2
           have HC245_2 := Aside0.mk hl245_2
           clear hi245_2 hl245_2
           replace p245 := eq_true p245
           replace q245 := eq_true q245
           refine start_ (n := 9) (S := fun w' => w'.cell? ⟨gb240, 0, none⟩ = some (.int .i64 ((rd_T33 ((rd_T100 l0 0).f2.f0) a1).f0)) ∧ w'.cell? ⟨gb240, 1, none⟩ = some (.int .i64 ((rd_T33 ((rd_T100 l0 0).f2.f0) a1).f1)) ∧ w'.cell? ⟨gb240, 2, none⟩ = some (.int .i64 ((rd_T33 ((rd_T100 l0 0).f2.f0) a1).f2)) ∧ w'.cell? ⟨gb240, 3, none⟩ = some (.slice A239_3 ((rd_T33 ((rd_T100 l0 0).f2.f0) a1).f3).length c239_3) ∧ w'.cell? ad235 = some (.slice A245_0 ((rd_T100 l0 0).f0).length c245_0) ∧ w'.cell? ⟨ad235.block, ad235.off + 1, none⟩ = some (.slice A245_1 ((rd_T100 l0 0).f1).length c245_1) ∧ w'.cell? ⟨ad235.block, ad235.off + 2, none⟩ = some (.slice A245_2 ((rd_T100 l0 0).f2.f0).length c245_2)) (ds := []) #[false, false, false, false, false, false, false, false, false] (by kernel_rfl) rfl rfl ⟨(blk_cell BK240.out 0).trans rfl, (blk_cell BK240.out 1).trans rfl, (blk_cell BK240.out 2).trans rfl, (blk_cell BK240.out 3).trans rfl, (cell_b HB.out hw245_0), (cell_b HB.out hw245_1), (cell_b HB.out hw245_2)⟩ (fun hHeld => ?_); refine with_tabW view_File_Span.tab6 view_File_Span.bits6 (fun HT_ HW_ => ?_)
           generalize w49.drew = w50 at BK236 BK240 HB HR245_0 HR245_1 HR245_2 hx245_0 hx245_1 hx245_2 hHeld ⊢
           refine pure_ (i := 0) (N := some 59) (v := ?_) (a' := ?_) #[true, false, false, false, false, false, false, false, false] rfl rfl (any_of HT_.out (by kernel_rfl)) (fun _ _ _ h => h) (Or.inl ⟨by rfl, ?_⟩) ?_ ?_; rotate_left; { intro w'; go_simp; with_reducible rfl }; rotate_left; { simp only [Act.put, List.setIfInBounds_toArray, List.set_cons_zero, List.set_cons_succ, i64_w, i32_w]; rfl }
           refine pure_ (i := 2) (N := some 61) (v := ?_) (a' := ?_) #[true, false, true, false, false, false, false, false, false] rfl rfl (any_of HT_.out (by kernel_rfl)) (fun _ _ _ h => h) (Or.inl ⟨by rfl, ?_⟩) ?_ ?_; rotate_left; { intro w'; go_simp; with_reducible rfl }; rotate_left; { simp only [Act.put, List.setIfInBounds_toArray, List.set_cons_zero, List.set_cons_succ, i64_w, i32_w]; rfl }
           refine pure_ (i := 3) (N := some 62) (v := ?_) (a' := ?_) #[true, false, true, true, false, false, false, false, false] rfl rfl (any_of HT_.out (by kernel_rfl)) (fun _ _ _ h => h) (Or.inl ⟨by rfl, ?_⟩) ?_ ?_; rotate_left; { intro w'; go_simp; with_reducible rfl }; rotate_left; { simp only [Act.put, List.setIfInBounds_toArray, List.set_cons_zero, List.set_cons_succ, i64_w, i32_w]; rfl }
           refine pure_ (i := 4) (N := some 63) (v := ?_) (a' := ?_) #[true, false, true, true, true, false, false, false, false] rfl rfl (any_of HT_.out (by kernel_rfl)) (fun _ _ _ h => h) (Or.inl ⟨by rfl, ?_⟩) ?_ ?_; rotate_left; { intro w'; go_simp; with_reducible rfl }; rotate_left; { simp only [Act.put, List.setIfInBounds_toArray, List.set_cons_zero, List.set_cons_succ, i64_w, i32_w]; rfl }
           refine take_ (i := 1) (N := some 60) (v := ?_) (a' := ?_) #[true, true, true, true, true, false, false, false, false] rfl rfl (take_ofW HT_.out HW_.out (by kernel_rfl)) (fun _ _ _ h => h) (Or.inl ⟨by rfl, ?_⟩) hHeld ?_ ?_; rotate_left; { rintro w' ⟨s0, s1, s2, s3, s4, s5, s6⟩; go_simp; with_reducible rfl }; rotate_left; { simp only [Act.put, List.setIfInBounds_toArray, List.set_cons_zero, List.set_cons_succ, i64_w, i32_w]; rfl }
           refine take_ (i := 5) (N := some 64) (v := ?_) (a' := ?_) #[true, true, true, true, true, true, false, false, false] rfl rfl (take_ofW HT_.out HW_.out (by kernel_rfl)) (fun _ _ _ h => h) (Or.inl ⟨by rfl, ?_⟩) hHeld ?_ ?_; rotate_left; { rintro w' ⟨s0, s1, s2, s3, s4, s5, s6⟩; go_simp; with_reducible rfl }; rotate_left; { simp only [Act.put, List.setIfInBounds_toArray, List.set_cons_zero, List.set_cons_succ, i64_w, i32_w]; rfl }
           refine pure_ (i := 6) (N := some 65) (v := ?_) (a' := ?_) #[true, true, true, true, true, true, true, false, false] rfl rfl (any_of HT_.out (by kernel_rfl)) (fun _ _ _ h => h) (Or.inl ⟨by rfl, ?_⟩) ?_ ?_; rotate_left; { intro w'; go_simp; with_reducible rfl }; rotate_left; { simp only [Act.put, List.setIfInBounds_toArray, List.set_cons_zero, List.set_cons_succ, i64_w, i32_w]; rfl }
           refine pure_ (i := 7) (N := some 66) (v := ?_) (a' := ?_) #[true, true, true, true, true, true, true, true, false] rfl rfl (any_of HT_.out (by kernel_rfl)) (fun _ _ _ h => h) (Or.inl ⟨by rfl, ?_⟩) ?_ ?_; rotate_left; { intro w'; go_simp; with_reducible rfl }; rotate_left; { simp only [Act.put, List.setIfInBounds_toArray, List.set_cons_zero, List.set_cons_succ, i64_w, i32_w]; rfl }
           refine pure_ (i := 8) (N := some 58) (v := ?_) (a' := ?_) #[true, true, true, true, true, true, true, true, true] rfl rfl (any_of HT_.out (by kernel_rfl)) (fun _ _ _ h => h) (Or.inl ⟨by rfl, ?_⟩) ?_ ?_; rotate_left; { intro w'; go_simp; with_reducible rfl }; rotate_left; { simp only [Act.put, List.setIfInBounds_toArray, List.set_cons_zero, List.set_cons_succ, i64_w, i32_w]; rfl }
           refine done_ (done_of HT_.out (by kernel_rfl)) ?_
           have p250 : 0 ≤ (0 : Int) := (by omega)
           have q250 : 0 < (l0.length : Int) := of_dec
           obtain ⟨ad250, A250_0, c250_0, A250_1, c250_1, A250_2, c250_2, e250, hx250_0, hx250_1, hx250_2, hl250_0, hi250_0, hl250_1, hi250_1, hl250_2, hi250_2⟩ := at_T100 HR0.out 0 p250 q250
           obtain rfl : ad235 = ad250 := (by injection e250)
           have qi250 : (0 < l0.length) = True := eq_true (by omega)
           (try rw [show ((0 : Int)).toNat = 0 from rfl] at hx250_0)
           (try rw [show 0 * 3 = 0 from rfl] at hx250_0)
           (try rw [Addr.add_zero'] at hx250_0)
           (try rw [show ((0 : Int)).toNat = 0 from rfl] at hx250_1)
           (try rw [show 0 * 3 = 0 from rfl] at hx250_1)
           (try rw [Addr.add_zero'] at hx250_1)
           (try rw [show ((0 : Int)).toNat = 0 from rfl] at hx250_2)
           (try rw [show 0 * 3 = 0 from rfl] at hx250_2)
           (try rw [Addr.add_zero'] at hx250_2)
           replace hx250_0 := cell_b HB.out hx250_0
           replace hx250_1 := cell_b HB.out hx250_1
           replace hx250_2 := cell_b HB.out hx250_2
           have HR250_0 := Aside0.mk hi250_0
           have HC250_0 := Aside0.mk hl250_0
           clear hi250_0 hl250_0
           have HR250_1 := Aside0.mk hi250_1
           have HC250_1 := Aside0.mk hl250_1
           clear hi250_1 hl250_1
           have HR250_2 := Aside0.mk hi250_2
           have HC250_2 := Aside0.mk hl250_2
           clear hi250_2 hl250_2
           replace p250 := eq_true p250
           replace q250 := eq_true q250
           have ea_ := Option.some.inj (hx245_0.symm.trans hx250_0)
           injection ea_ with ea_ en_ ec_
           subst ea_
           subst ec_
           clear en_
           have ea_ := Option.some.inj (hx245_1.symm.trans hx250_1)
           injection ea_ with ea_ en_ ec_
           subst ea_
           subst ec_
           clear en_
           have ea_ := Option.some.inj (hx245_2.symm.trans hx250_2)
           injection ea_ with ea_ en_ ec_
           subst ea_
           subst ec_
           clear en_
           have hcz51_0 : w50.cell? ⟨gb236, 0, none⟩ = some (.int .i64 0) := (blk_cell BK236.out 0).trans rfl
           have hcz51_1 : w50.cell? ⟨gb236, 1, none⟩ = some (.int .i64 0) := (blk_cell BK236.out 1).trans rfl
           have hfz51_0 := blk_frozen BK236.out 0
           have hfz51_1 := blk_frozen BK236.out 1
           try go_wp2
           refine bodyPost_ret (results_cell_row rfl _ _ gb236 105 #[.int .i64 0, .int .i64 0] (0, 0) _ rfl (by (with_reducible repeat (first | refine blk_drewN ?_ _ | refine blk_drew ?_ | refine blk_alloc ?_ _)); refine blk_put (cs := #[.int .i64 0, .int .i64 0]) ?_ 1 _ rfl; refine blk_put (cs := #[.int .i64 0, .int .i64 0]) ?_ 0 _ rfl; (with_reducible repeat (first | refine blk_drewN ?_ _ | refine blk_drew ?_ | refine blk_alloc ?_ _)); exact BK236.out) Tryd.underlying105 rfl (by kernel_rfl)) rfl ?_
           exact ⟨by first | rfl | (simp [*, errW_none, errW_some, erT_no, erV_no, erT_at, erV_at] <;> rfl), by repeat (first | (with_reducible first | exact HB.out | apply below_alloc | apply pw_below_drewN | apply below_drew1 | refine below_set ?_ GE236.out | refine below_set ?_ GE240.out) | exact HB.out)⟩
       ·rw [if_neg c11] at H
        exact absurd H (by simp)
      ·rw [if_neg c10] at H
       exact absurd H (by simp)
     ·rw [if_neg c9] at H
      exact absurd H (by simp)
 ·rw [if_neg c3] at H
  exact absurd H (by simp)

end Go.Proofs.YtnpgadfoohjlnaaDoor.QV
