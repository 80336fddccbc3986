/- Where a Lean function of this text answers, the Go function of its name comes to that answer: no other condition. Written by a program of this session out of the translation; Lean checks it. -/
import Derived.Test.YtnpgadfoohjlnaaDoorQV0
import Derived.Test.YtnpgadfoohjlnaaDoorQV13
namespace Go.Proofs.YtnpgadfoohjlnaaDoor.QV
open Go.RowKit Go.Proofs.YtnpgadfoohjlnaaDoorW.PrintWords Go.Proofs.YtnpgadfoohjlnaaDoorW.PrintLast Go.Proofs.YtnpgadfoohjlnaaDoorW.PrintMore Go.Proofs.YtnpgadfoohjlnaaDoorW.PrintX
attribute [local go_sem] max2_int min2_int max_two min_two max_three min_three max_four min_four   -- for this text's walks alone
set_option linter.unusedVariables false
set_option linter.unusedSimpArgs false

/-! ### cavilref13_Own: function 24 -/
def cavilref13_Own.l0 : Nat → Int → List Int → Int → List (S33) → Option (List Int)
 | 0, _, _, _, _ => none
 | k + 1, x1, x5, x6, x282000 => if 0 ≤ x1 then (if x1 < (x282000.length : Int) then (if x6 < ((rd_T33 x282000 x1).f2) then ((cavilref13_Owns.f k x282000 x1 x6).bind fun t284 => (if t284 = true then (if x5.length < 17592186044416 then (cavilref13_Own.l0 k x1 (x5 ++ [x6]) (wrap64 (x6 + 1)) x282000) else (none)) else (cavilref13_Own.l0 k x1 x5 (wrap64 (x6 + 1)) x282000))) else (some x5)) else (none)) else (none)
def cavilref13_Own.f (k : Nat) (l0_0 : List (S33)) (a1 : Int) : Option (List Int) := if 0 ≤ a1 then (if a1 < (l0_0.length : Int) then (cavilref13_Own.l0 k a1 ([] : List Int) ((rd_T33 l0_0 a1).f1) l0_0) else (none)) else (none)
theorem cavilref13_Own.mono_l : ∀ k, (∀ y0 y1 y2 y3, LeO (cavilref13_Own.l0 k y0 y1 y2 y3) (cavilref13_Own.l0 (k + 1) y0 y1 y2 y3))
 | 0 => fun _ _ _ _ r h => by simp [cavilref13_Own.l0] at h
 | k + 1 => by
  have ih0 := cavilref13_Own.mono_l k
  ·intro y0 y1 y2 y3
   unfold cavilref13_Own.l0
   repeat' first
   | (with_reducible exact ih0 _ _ _ _)
   | (with_reducible exact cavilref13_Owns.mono _ _ _ _)
   | (with_reducible exact LeO.refl _)
   | (with_reducible exact LeO.none _)
   | (with_reducible refine LeO.ite ?_ ?_)
   | (with_reducible refine LeO.bind ?_ (fun _ => ?_))
   | exact ih0 _ _ _ _
   | exact cavilref13_Owns.mono _ _ _ _
   | exact LeO.none _
   | refine LeO.ite ?_ ?_
   | refine LeO.bind ?_ (fun _ => ?_)
theorem cavilref13_Own.mono : ∀ a0 a1 k, LeO (cavilref13_Own.f k a0 a1) (cavilref13_Own.f (k + 1) a0 a1) := by
 intro a0 a1 k
 have ih0 := cavilref13_Own.mono_l k
 unfold cavilref13_Own.f
 repeat' first
   | (with_reducible exact ih0 _ _ _ _)
   | (with_reducible exact cavilref13_Owns.mono _ _ _ _)
   | (with_reducible exact LeO.refl _)
   | (with_reducible exact LeO.none _)
   | (with_reducible refine LeO.ite ?_ ?_)
   | (with_reducible refine LeO.bind ?_ (fun _ => ?_))
   | exact ih0 _ _ _ _
   | exact cavilref13_Owns.mono _ _ _ _
   | exact LeO.none _
   | refine LeO.ite ?_ ?_
   | refine LeO.bind ?_ (fun _ => ?_)
set_option maxHeartbeats 8000000 in
set_option maxRecDepth 100000 in
theorem cavilref13_Own.calls (k : Nat) (A0_0 : Option Addr) (c0_0 : Nat) (l0_0 : List (S33)) (a1 : Int) (r : List Int) (w : World) (hr0_0 : Kd.C k33 w A0_0 l0_0.length l0_0) (hc0_0 : l0_0.length ≤ c0_0) (h : cavilref13_Own.f k l0_0 a1 = some r) :
  Calls Tryd.prog 24 #[.agg #[.slice A0_0 l0_0.length c0_0], .int .i64 a1] w fun e w' => ∃ v0_ : Value, e = .returned (v0_) ∧ Kd.R (Kd.int .i64) 3 w' w.heap.size (fun _ => True) v0_ r ∧ Below w.heap.size w w' := by
 have hu24 := Tryd.underlying24
 have HR0_0 := Aside0.mk hr0_0
 have HC0_0 := Aside0.mk hc0_0
 clear hr0_0 hc0_0
 have HB := Aside0.mk (Below.refl w.heap.size w)
 have H : (if 0 ≤ a1 then (if a1 < (l0_0.length : Int) then (cavilref13_Own.l0 k a1 ([] : List Int) ((rd_T33 l0_0 a1).f1) l0_0) else (none)) else (none)) = some r := h
 clear h
 by_cases c3 : 0 ≤ a1
 ·rw [if_pos c3] at H
  have c3b0 : decide (0 ≤ a1) = true := decide_eq_true c3
  clear c3
  by_cases c4 : a1 < (l0_0.length : Int)
  ·rw [if_pos c4] at H
   have c4b0 : decide (a1 < (l0_0.length : Int)) = true := decide_eq_true c4
   clear c4
   have H' := Aside0.mk H
   clear H
   go_enter Tryd.func24, Tryd.ntmps24
   go_wp2_with (first | ((with_reducible refine gate_dst (N := 2) rfl ?_); refine box_event ?hg (N := 2) ?hd (cs := #[.slice A0_0 l0_0.length c0_0]) (t := 24) ?hr ?_; (case hd => rfl); (case hg => rfl); (case hr => first | (go_simp; done) | (go_simp; rfl)); intro gb281 hg w5 hbox hb; have n0_ := Aside0.mk (below_step (go_b HB.out) hb); have n1_ := Aside0.mk (hbox); have n2_ := Aside0.mk ((by rw [hg]; exact (below_size (go_b HB.out)) : w.heap.size ≤ gb281)); have n3_ := n2_; clear HB; have HB := n0_; have BK281 := n1_; have GW281 := n2_; have GE281 := n3_; clear n0_ n1_ n2_ n3_; clear hb hbox hg; have hcz6_0 : w5.cell? ⟨gb281, 0, none⟩ = some (.slice A0_0 l0_0.length c0_0) := (blk_cell BK281.out 0).trans rfl; have hfz6_0 := blk_frozen BK281.out 0; have p282 : 0 ≤ (a1 : Int) := of_dec; have q282 : a1 < (l0_0.length : Int) := of_dec; obtain ⟨ad282, A282_3, c282_3, e282, hx282_0, hx282_1, hx282_2, hx282_3, hl282_3, hi282_3⟩ := at_T33 HR0_0.out a1 p282 q282; cases e282; replace hx282_0 := cell_b HB.out hx282_0; replace hx282_1 := cell_b HB.out hx282_1; replace hx282_2 := cell_b HB.out hx282_2; replace hx282_3 := cell_b HB.out hx282_3; have HR282_3 := Aside0.mk hi282_3; have HC282_3 := Aside0.mk hl282_3; clear hi282_3 hl282_3; replace p282 := eq_true p282; replace q282 := eq_true q282))
   go_loopg [5, 6] k (fun kq v5 v6 w' => ∃ (x5_1 : List Int) (x6_1 : Int), v6 = .int .i64 x6_1 ∧ Aside0 (cavilref13_Own.l0 kq a1 x5_1 x6_1 l0_0 = some r) ∧ Aside0 (kq ≤ k) ∧ Aside0 (Kd.R (Kd.int .i64) 3 w' w.heap.size (fun _ => True) v5 x5_1) ∧ Aside0 (w'.heap[gb281]? = some (.cells #[(.slice (some ad282) l0_0.length c0_0)] 24 (0, 0))) ∧ Aside0 (Below w.heap.size w w'))
   case atStart => exact ⟨(([] : List Int)), ((rd_T33 l0_0 a1).f1), (by first | rfl | (simp; done) | (simp [*]; done)), H', ⟨Nat.le_refl _⟩, ⟨by first | exact Kd.R_nil _ _ _ _ _ | exact Kd.N_nil _ _ _ _ _ | exact Kd.V_nil _ _ _ _ _ | exact Kd.Q_nil _ _ _ _ _ | exact Kd.S_nil _ _ _ _ _⟩, ⟨by (with_reducible repeat (first | refine blk_drewN ?_ _ | refine blk_drew ?_ | refine blk_alloc ?_ _)); exact BK281.out⟩, ⟨by repeat (first | (with_reducible first | exact HB.out | apply below_alloc | apply pw_below_drewN | apply below_drew1 | refine below_set ?_ GE281.out) | exact HB.out)⟩⟩
   case round =>
    clear H'
    try clear c2
    try clear p2
    try clear q2
    try clear hx2
    try clear c3
    try clear c3b0
    try clear c4
    try clear c4b0
    try clear hcz6_0
    try clear hfz6_0
    try clear hx282_0
    try clear hx282_1
    try clear hx282_2
    try clear hx282_3
    try clear p282
    try clear q282
    obtain ⟨x5_1, x6_1, rfl, HA, HK1, HO_5, BK281, HB⟩ := hrel
    cases gk with
    | zero => exact absurd HA.out (by simp [cavilref13_Own.l0])
    | succ k1 =>
     have H := HA.out
     clear HA
     simp only [cavilref13_Own.l0] at H
     by_cases c7 : 0 ≤ a1
     ·rw [if_pos c7] at H
      have c7b0 : decide (0 ≤ a1) = true := decide_eq_true c7
      clear c7
      by_cases c8 : a1 < (l0_0.length : Int)
      ·rw [if_pos c8] at H
       have c8b0 : decide (a1 < (l0_0.length : Int)) = true := decide_eq_true c8
       clear c8
       by_cases c9 : x6_1 < ((rd_T33 l0_0 a1).f2)
       ·rw [if_pos c9] at H
        have c9b0 : decide (x6_1 < ((rd_T33 l0_0 a1).f2)) = true := decide_eq_true c9
        clear c9
        replace H := Option.bind_eq_some_iff.mp H
        obtain ⟨t284, A100, H⟩ := H
        replace H : (if t284 = true then (if x5_1.length < 17592186044416 then (cavilref13_Own.l0 k1 a1 (x5_1 ++ [x6_1]) (wrap64 (x6_1 + 1)) l0_0) else (none)) else (cavilref13_Own.l0 k1 a1 x5_1 (wrap64 (x6_1 + 1)) l0_0)) = some r := H
        have A10 := Aside0.mk A100
        clear A100
        by_cases c11 : t284 = true
        ·subst c11
         have H1 : (if x5_1.length < 17592186044416 then (cavilref13_Own.l0 k1 a1 (x5_1 ++ [x6_1]) (wrap64 (x6_1 + 1)) l0_0) else (none)) = some r := by rw [if_pos rfl] at H; exact H
         clear H
         have H := H1
         clear H1
         by_cases c12 : x5_1.length < 17592186044416
         ·rw [if_pos c12] at H
          have LMc12 := Aside0.mk c12
          clear c12
          obtain ⟨y285, hy285⟩ : ∃ y_ : List Int, y_ = (x5_1 ++ [x6_1]) := ⟨_, rfl⟩
          replace H : (cavilref13_Own.l0 k1 a1 y285 (wrap64 (x6_1 + 1)) l0_0) = some r := by first | (rw [hy285]; with_reducible exact H) | (have H2_ := (Option.bind_some _ _).symm.trans H; rw [hy285]; with_reducible exact H2_) | (have H2_ := (Option.bind_some _ _).symm.trans H; with_reducible exact H2_) | with_reducible exact H | (rw [hy285]; exact H) | exact H
          have Ny285 := Aside0.mk hy285
          clear hy285
          have H' := Aside0.mk H
          clear H
          have hcz13_0 : wr.cell? ⟨gb281, 0, none⟩ = some (.slice (some ad282) l0_0.length c0_0) := (blk_cell BK281.out 0).trans rfl
          have hfz13_0 := blk_frozen BK281.out 0
          have p283 : 0 ≤ (a1 : Int) := of_dec
          have q283 : a1 < (l0_0.length : Int) := of_dec
          obtain ⟨ad283, A283_3, c283_3, e283, hx283_0, hx283_1, hx283_2, hx283_3, hl283_3, hi283_3⟩ := at_T33 HR0_0.out a1 p283 q283
          obtain rfl : ad282 = ad283 := (by injection e283)
          replace hx283_0 := cell_b HB.out hx283_0
          replace hx283_1 := cell_b HB.out hx283_1
          replace hx283_2 := cell_b HB.out hx283_2
          replace hx283_3 := cell_b HB.out hx283_3
          have HR283_3 := Aside0.mk hi283_3
          have HC283_3 := Aside0.mk hl283_3
          clear hi283_3 hl283_3
          replace p283 := eq_true p283
          replace q283 := eq_true q283
          go_wp2_with (first | ((with_reducible refine gate_callee (f := 60) rfl ?_); refine goesL_ (some 26) rfl rfl Tryd.func60 (by kernel_rfl) rfl #[.agg #[.slice (some ad282) l0_0.length c0_0], .int .i64 a1, .int .i64 x6_1] rfl (by (try simp only [List.map_toArray, List.map_cons, List.map_nil]); first | done | rfl | (simp only [List.length_drop, List.length_take]; rfl)) ?_; (with_reducible refine (cavilref13_Owns.calls k1 _ _ l0_0 a1 x6_1 true _ ?side1 ?side2 A10.out).mono ?_); (case side1 => repeat (first | exact (Kd.C_below HR0_0.out HB.out) | (with_reducible refine Kd.C_alloc ?_ _) | (with_reducible refine Kd.C_drewN ?_ _) | (with_reducible refine Kd.C_drew ?_))); (case side2 => exact HC0_0.out); rintro e w14 ⟨rfl, hb⟩; refine ⟨_, rfl, ?_⟩; have n0_ := Aside0.mk (Kd.R_below (go_R HO_5.out) hb); have n1_ := Aside0.mk (blk_below (g := gb281) (o := .cells #[.slice (some ad282) l0_0.length c0_0] 24 (0, 0)) (go_k BK281.out) hb); have n2_ := Aside0.mk (below_step (go_b1 HB.out GE281.out) hb); clear HO_5; clear BK281; clear HB; have HO_5 := n0_; have BK281 := n1_; have HB := n2_; clear n0_ n1_ n2_; (try clear hb); (try clear hb2); (try clear hk); (try clear hi)) | ((with_reducible refine gate_builtin (b := .append) (xs := #[.tmp 27, .tmp 29]) rfl ?_); at_builtin; refine Kd.R_append (Kd.int .i64) (w0 := w) w.heap.size rfl (.tmp 27) (.tmp 29) 31 3 (.int .i64 0) 8 rfl Tryd.underlying31 info3 rfl (by decide) (by omega) u5 x5_1 x6_1 [.int .i64 x6_1] (fun _ => True) (fun _ => False) rfl rfl ?aP (fun _ hk => hk.elim) ?aF ?aO ?aB ?aS ?aL ?_; (case aP => exact rfl); (case aB => exact (go_b1 HB.out GE281.out)); (case aF => exact (fun _ _ => trivial)); (case aO => exact (go_R HO_5.out)); (case aS => exact (below_size (go_b1 HB.out GE281.out))); (case aL => have := LMc12.out; omega); intro v286 w15 ho hb hg hat; rw [← Ny285.out] at ho; have n0_ := Aside0.mk (blk_grown (g := gb281) (o := .cells #[.slice (some ad282) l0_0.length c0_0] 24 (0, 0)) (go_k BK281.out) hg (Kd.R_ne HO_5.out BK281.out (by decide))); have n1_ := Aside0.mk (hb); have n2_ := Aside0.mk (ho); clear BK281; clear HB; clear HO_5; have BK281 := n0_; have HB := n1_; have HO287 := n2_; clear n0_ n1_ n2_; clear ho hb hg hat))
          go_roundg k1
          case measure => have := HK1.out; omega
          case rel => exact ⟨(y285), (wrap64 (x6_1 + 1)), (by first | rfl | (simp; done) | (simp [*]; done)), H', ⟨by have := HK1.out; omega⟩, ⟨by (with_reducible repeat (first | apply Kd.R_alloc | apply Kd.R_drewN | apply Kd.R_drew)); exact HO287.out⟩, ⟨by (with_reducible repeat (first | refine blk_drewN ?_ _ | refine blk_drew ?_ | refine blk_alloc ?_ _)); exact BK281.out⟩, ⟨by repeat (first | (with_reducible first | exact HB.out | apply below_alloc | apply pw_below_drewN | apply below_drew1 | refine below_set ?_ GE281.out) | exact HB.out)⟩⟩
         ·rw [if_neg c12] at H
          exact absurd H (by simp)
        ·replace c11 := Bool.eq_false_iff.mpr c11
         subst c11
         have H1 : (cavilref13_Own.l0 k1 a1 x5_1 (wrap64 (x6_1 + 1)) l0_0) = some r := by rw [if_neg (show ¬ (false = true) by decide)] at H; exact H
         clear H
         have H := H1
         clear H1
         have H' := Aside0.mk H
         clear H
         have hcz16_0 : wr.cell? ⟨gb281, 0, none⟩ = some (.slice (some ad282) l0_0.length c0_0) := (blk_cell BK281.out 0).trans rfl
         have hfz16_0 := blk_frozen BK281.out 0
         have p283 : 0 ≤ (a1 : Int) := of_dec
         have q283 : a1 < (l0_0.length : Int) := of_dec
         obtain ⟨ad283, A283_3, c283_3, e283, hx283_0, hx283_1, hx283_2, hx283_3, hl283_3, hi283_3⟩ := at_T33 HR0_0.out a1 p283 q283
         obtain rfl : ad282 = ad283 := (by injection e283)
         replace hx283_0 := cell_b HB.out hx283_0
         replace hx283_1 := cell_b HB.out hx283_1
         replace hx283_2 := cell_b HB.out hx283_2
         replace hx283_3 := cell_b HB.out hx283_3
         have HR283_3 := Aside0.mk hi283_3
         have HC283_3 := Aside0.mk hl283_3
         clear hi283_3 hl283_3
         replace p283 := eq_true p283
         replace q283 := eq_true q283
         go_wp2_with (first | ((with_reducible refine gate_callee (f := 60) rfl ?_); refine goesL_ (some 26) rfl rfl Tryd.func60 (by kernel_rfl) rfl #[.agg #[.slice (some ad282) l0_0.length c0_0], .int .i64 a1, .int .i64 x6_1] rfl (by (try simp only [List.map_toArray, List.map_cons, List.map_nil]); first | done | rfl | (simp only [List.length_drop, List.length_take]; rfl)) ?_; (with_reducible refine (cavilref13_Owns.calls k1 _ _ l0_0 a1 x6_1 false _ ?side1 ?side2 A10.out).mono ?_); (case side1 => repeat (first | exact (Kd.C_below HR0_0.out HB.out) | (with_reducible refine Kd.C_alloc ?_ _) | (with_reducible refine Kd.C_drewN ?_ _) | (with_reducible refine Kd.C_drew ?_))); (case side2 => exact HC0_0.out); rintro e w17 ⟨rfl, hb⟩; refine ⟨_, rfl, ?_⟩; have n0_ := Aside0.mk (Kd.R_below (go_R HO_5.out) hb); have n1_ := Aside0.mk (blk_below (g := gb281) (o := .cells #[.slice (some ad282) l0_0.length c0_0] 24 (0, 0)) (go_k BK281.out) hb); have n2_ := Aside0.mk (below_step (go_b1 HB.out GE281.out) hb); clear HO_5; clear BK281; clear HB; have HO_5 := n0_; have BK281 := n1_; have HB := n2_; clear n0_ n1_ n2_; (try clear hb); (try clear hb2); (try clear hk); (try clear hi)))
         go_roundg k1
         case measure => have := HK1.out; omega
         case rel => exact ⟨(x5_1), (wrap64 (x6_1 + 1)), (by first | rfl | (simp; done) | (simp [*]; done)), H', ⟨by have := HK1.out; omega⟩, ⟨by (with_reducible repeat (first | apply Kd.R_alloc | apply Kd.R_drewN | apply Kd.R_drew)); exact HO_5.out⟩, ⟨by (with_reducible repeat (first | refine blk_drewN ?_ _ | refine blk_drew ?_ | refine blk_alloc ?_ _)); exact BK281.out⟩, ⟨by repeat (first | (with_reducible first | exact HB.out | apply below_alloc | apply pw_below_drewN | apply below_drew1 | refine below_set ?_ GE281.out) | exact HB.out)⟩⟩
       ·rw [if_neg c9] at H
        have c9b0 : decide (x6_1 < ((rd_T33 l0_0 a1).f2)) = false := decide_eq_false c9
        clear c9
        obtain rfl := Option.some.inj H
        have hcz18_0 : wr.cell? ⟨gb281, 0, none⟩ = some (.slice (some ad282) l0_0.length c0_0) := (blk_cell BK281.out 0).trans rfl
        have hfz18_0 := blk_frozen BK281.out 0
        have p283 : 0 ≤ (a1 : Int) := of_dec
        have q283 : a1 < (l0_0.length : Int) := of_dec
        obtain ⟨ad283, A283_3, c283_3, e283, hx283_0, hx283_1, hx283_2, hx283_3, hl283_3, hi283_3⟩ := at_T33 HR0_0.out a1 p283 q283
        obtain rfl : ad282 = ad283 := (by injection e283)
        replace hx283_0 := cell_b HB.out hx283_0
        replace hx283_1 := cell_b HB.out hx283_1
        replace hx283_2 := cell_b HB.out hx283_2
        replace hx283_3 := cell_b HB.out hx283_3
        have HR283_3 := Aside0.mk hi283_3
        have HC283_3 := Aside0.mk hl283_3
        clear hi283_3 hl283_3
        replace p283 := eq_true p283
        replace q283 := eq_true q283
        go_wp2
        go_ret
        exact ⟨_, by first | rfl | (simp [*, errW_none, errW_some, erT_no, erV_no, erT_at, erV_at] <;> rfl), by (with_reducible repeat (first | apply Kd.R_alloc | apply Kd.R_drewN | apply Kd.R_drew)); exact HO_5.out, by repeat (first | (with_reducible first | exact HB.out | apply below_alloc | apply pw_below_drewN | apply below_drew1 | refine below_set ?_ GE281.out) | exact HB.out)⟩
      ·rw [if_neg c8] at H
       exact absurd H (by simp)
     ·rw [if_neg c7] at H
      exact absurd H (by simp)
  ·rw [if_neg c4] at H
   exact absurd H (by simp)
 ·rw [if_neg c3] at H
  exact absurd H (by simp)

/-! ### cavilref15_In: function 49 -/
def cavilref15_In.f (l0_0 : List (S33)) (a1 : Int) : Option (Bool) := if a1 ≥ 0 then (some (decide (a1 < (l0_0.length : Int)))) else (some false)
set_option maxHeartbeats 8000000 in
set_option maxRecDepth 100000 in
theorem cavilref15_In.calls (A0_0 : Option Addr) (c0_0 : Nat) (l0_0 : List (S33)) (a1 : Int) (r : Bool) (w : World) (hr0_0 : Kd.C k33 w A0_0 l0_0.length l0_0) (hc0_0 : l0_0.length ≤ c0_0) (h : cavilref15_In.f l0_0 a1 = some r) :
  Calls Tryd.prog 49 #[.agg #[.slice A0_0 l0_0.length c0_0], .int .i64 a1] w fun e w' => e = .returned (.bool r) ∧ Below w.heap.size w w' := by
 have hu24 := Tryd.underlying24
 have HR0_0 := Aside0.mk hr0_0
 have HC0_0 := Aside0.mk hc0_0
 clear hr0_0 hc0_0
 have HB := Aside0.mk (Below.refl w.heap.size w)
 have H : (if a1 ≥ 0 then (some (decide (a1 < (l0_0.length : Int)))) else (some false)) = some r := h
 clear h
 by_cases c3 : a1 ≥ 0
 ·rw [if_pos c3] at H
  have c3b0 : decide (0 ≤ a1) = true := decide_eq_true c3
  clear c3
  obtain rfl := Option.some.inj H
  go_enter Tryd.func49, Tryd.ntmps49
  go_wp2_with (first | ((with_reducible refine gate_dst (N := 2) rfl ?_); (try (refine gate_guard (by rfl) ?_; dsimp only)); refine box_event ?hg (N := 2) ?hd (cs := #[.slice A0_0 l0_0.length c0_0]) (t := 24) ?hr ?_; (case hd => rfl); (case hg => rfl); (case hr => first | (go_simp; done) | (go_simp; rfl)); intro gb288 hg w4 hbox hb; have n0_ := Aside0.mk (below_step (go_b HB.out) hb); have n1_ := Aside0.mk (hbox); have n2_ := Aside0.mk ((by rw [hg]; exact (below_size (go_b HB.out)) : w.heap.size ≤ gb288)); have n3_ := n2_; clear HB; have HB := n0_; have BK288 := n1_; have GW288 := n2_; have GE288 := n3_; clear n0_ n1_ n2_ n3_; clear hb hbox hg; have hcz5_0 : w4.cell? ⟨gb288, 0, none⟩ = some (.slice A0_0 l0_0.length c0_0) := (blk_cell BK288.out 0).trans rfl; have hfz5_0 := blk_frozen BK288.out 0))
  go_ret
  exact ⟨by first | rfl | (simp [*, errW_none, errW_some, erT_no, erV_no, erT_at, erV_at] <;> rfl), by repeat (first | (with_reducible first | exact HB.out | apply below_alloc | apply pw_below_drewN | apply below_drew1 | refine below_set ?_ GE288.out) | exact HB.out)⟩
 ·rw [if_neg c3] at H
  have c3b0 : decide (0 ≤ a1) = false := decide_eq_false c3
  clear c3
  obtain rfl := Option.some.inj H
  go_enter Tryd.func49, Tryd.ntmps49
  go_wp2_with (first | ((with_reducible refine gate_dst (N := 2) rfl ?_); (try (refine gate_guard (by rfl) ?_; dsimp only)); refine box_event ?hg (N := 2) ?hd (cs := #[.slice A0_0 l0_0.length c0_0]) (t := 24) ?hr ?_; (case hd => rfl); (case hg => rfl); (case hr => first | (go_simp; done) | (go_simp; rfl)); intro gb288 hg w6 hbox hb; have n0_ := Aside0.mk (below_step (go_b HB.out) hb); have n1_ := Aside0.mk (hbox); have n2_ := Aside0.mk ((by rw [hg]; exact (below_size (go_b HB.out)) : w.heap.size ≤ gb288)); have n3_ := n2_; clear HB; have HB := n0_; have BK288 := n1_; have GW288 := n2_; have GE288 := n3_; clear n0_ n1_ n2_ n3_; clear hb hbox hg))
  go_ret
  exact ⟨by first | rfl | (simp [*, errW_none, errW_some, erT_no, erV_no, erT_at, erV_at] <;> rfl), by repeat (first | (with_reducible first | exact HB.out | apply below_alloc | apply pw_below_drewN | apply below_drew1 | refine below_set ?_ GE288.out) | exact HB.out)⟩

/-! ### cavilref15_Own: function 46 -/
def cavilref15_Own.f (k : Nat) (l0_0 : List (S33)) (a1 : Int) : Option (List Int) := (cavilref15_In.f l0_0 a1).bind fun t290 => (if t290 = true then ((cavilref13_Own.f k l0_0 a1).bind fun t291 => (some t291)) else (some ([] : List Int)))
theorem cavilref15_Own.mono : ∀ a0 a1 k, LeO (cavilref15_Own.f k a0 a1) (cavilref15_Own.f (k + 1) a0 a1) := by
 intro a0 a1 k
 unfold cavilref15_Own.f
 repeat' first
   | (with_reducible exact cavilref13_Own.mono _ _ _)
   | (with_reducible exact LeO.refl _)
   | (with_reducible exact LeO.none _)
   | (with_reducible refine LeO.ite ?_ ?_)
   | (with_reducible refine LeO.bind ?_ (fun _ => ?_))
   | exact cavilref13_Own.mono _ _ _
   | exact LeO.none _
   | refine LeO.ite ?_ ?_
   | refine LeO.bind ?_ (fun _ => ?_)
set_option maxHeartbeats 8000000 in
set_option maxRecDepth 100000 in
theorem cavilref15_Own.calls (k : Nat) (A0_0 : Option Addr) (c0_0 : Nat) (l0_0 : List (S33)) (a1 : Int) (r : List Int) (w : World) (hr0_0 : Kd.C k33 w A0_0 l0_0.length l0_0) (hc0_0 : l0_0.length ≤ c0_0) (h : cavilref15_Own.f k l0_0 a1 = some r) :
  Calls Tryd.prog 46 #[.agg #[.slice A0_0 l0_0.length c0_0], .int .i64 a1] w fun e w' => ∃ v0_ : Value, e = .returned (v0_) ∧ Kd.R (Kd.int .i64) 3 w' w.heap.size (fun _ => True) v0_ r ∧ Below w.heap.size w w' := by
 have hu24 := Tryd.underlying24
 have HR0_0 := Aside0.mk hr0_0
 have HC0_0 := Aside0.mk hc0_0
 clear hr0_0 hc0_0
 have HB := Aside0.mk (Below.refl w.heap.size w)
 have H : ((cavilref15_In.f l0_0 a1).bind fun t290 => (if t290 = true then ((cavilref13_Own.f k l0_0 a1).bind fun t291 => (some t291)) else (some ([] : List Int)))) = some r := h
 clear h
 replace H := Option.bind_eq_some_iff.mp H
 obtain ⟨t290, A30, H⟩ := H
 replace H : (if t290 = true then ((cavilref13_Own.f k l0_0 a1).bind fun t291 => (some t291)) else (some ([] : List Int))) = some r := H
 have A3 := Aside0.mk A30
 clear A30
 by_cases c4 : t290 = true
 ·subst c4
  have H1 : ((cavilref13_Own.f k l0_0 a1).bind fun t291 => (some t291)) = some r := by rw [if_pos rfl] at H; exact H
  clear H
  have H := H1
  clear H1
  replace H := Option.bind_eq_some_iff.mp H
  obtain ⟨t291, A50, H⟩ := H
  replace H : (some t291) = some r := H
  have A5 := Aside0.mk A50
  clear A50
  obtain rfl := Option.some.inj H
  go_enter Tryd.func46, Tryd.ntmps46
  go_wp2_with (first | ((with_reducible refine gate_dst (N := 2) rfl ?_); refine box_event ?hg (N := 2) ?hd (cs := #[.slice A0_0 l0_0.length c0_0]) (t := 24) ?hr ?_; (case hd => rfl); (case hg => rfl); (case hr => first | (go_simp; done) | (go_simp; rfl)); intro gb289 hg w6 hbox hb; have n0_ := Aside0.mk (below_step (go_b HB.out) hb); have n1_ := Aside0.mk (hbox); have n2_ := Aside0.mk ((by rw [hg]; exact (below_size (go_b HB.out)) : w.heap.size ≤ gb289)); have n3_ := n2_; clear HB; have HB := n0_; have BK289 := n1_; have GW289 := n2_; have GE289 := n3_; clear n0_ n1_ n2_ n3_; clear hb hbox hg; have hcz7_0 : w6.cell? ⟨gb289, 0, none⟩ = some (.slice A0_0 l0_0.length c0_0) := (blk_cell BK289.out 0).trans rfl; have hfz7_0 := blk_frozen BK289.out 0) | ((with_reducible refine gate_callee (f := 49) rfl ?_); refine goesL_ (some 7) rfl rfl Tryd.func49 (by kernel_rfl) rfl #[.agg #[.slice A0_0 l0_0.length c0_0], .int .i64 a1] rfl (by (try simp only [List.map_toArray, List.map_cons, List.map_nil]); first | done | rfl | (simp only [List.length_drop, List.length_take]; rfl)) ?_; (with_reducible refine (cavilref15_In.calls _ _ l0_0 a1 true _ ?side1 ?side2 A3.out).mono ?_); (case side1 => repeat (first | exact (Kd.C_below HR0_0.out HB.out) | (with_reducible refine Kd.C_alloc ?_ _) | (with_reducible refine Kd.C_drewN ?_ _) | (with_reducible refine Kd.C_drew ?_))); (case side2 => exact HC0_0.out); rintro e w8 ⟨rfl, hb⟩; refine ⟨_, rfl, ?_⟩; have n0_ := Aside0.mk (blk_below (g := gb289) (o := .cells #[.slice A0_0 l0_0.length c0_0] 24 (0, 0)) (go_k BK289.out) hb); have n1_ := Aside0.mk (below_step (go_b1 HB.out GE289.out) hb); clear BK289; clear HB; have BK289 := n0_; have HB := n1_; clear n0_ n1_; (try clear hb); (try clear hb2); (try clear hk); (try clear hi); have hcz9_0 : w8.cell? ⟨gb289, 0, none⟩ = some (.slice A0_0 l0_0.length c0_0) := (blk_cell BK289.out 0).trans rfl; have hfz9_0 := blk_frozen BK289.out 0) | ((with_reducible refine gate_callee (f := 24) rfl ?_); refine goesL_ (some 11) rfl rfl Tryd.func24 (by kernel_rfl) rfl #[.agg #[.slice A0_0 l0_0.length c0_0], .int .i64 a1] rfl (by (try simp only [List.map_toArray, List.map_cons, List.map_nil]); first | done | rfl | (simp only [List.length_drop, List.length_take]; rfl)) ?_; (with_reducible refine (cavilref13_Own.calls k _ _ l0_0 a1 t291 _ ?side1 ?side2 A5.out).mono ?_); (case side1 => repeat (first | exact (Kd.C_below HR0_0.out HB.out) | (with_reducible refine Kd.C_alloc ?_ _) | (with_reducible refine Kd.C_drewN ?_ _) | (with_reducible refine Kd.C_drew ?_))); (case side2 => exact HC0_0.out); rintro e w10 ⟨v292, rfl, ho0, hb⟩; refine ⟨_, rfl, ?_⟩; have n0_ := Aside0.mk (Kd.R_lower ho0 (below_size (go_b1 HB.out GE289.out))); have n1_ := Aside0.mk (blk_below (g := gb289) (o := .cells #[.slice A0_0 l0_0.length c0_0] 24 (0, 0)) (go_k BK289.out) hb); have n2_ := Aside0.mk (below_step (go_b1 HB.out GE289.out) hb); clear BK289; clear HB; have HO293 := n0_; have BK289 := n1_; have HB := n2_; clear n0_ n1_ n2_; (try clear hb); (try clear hb2); (try clear hk); (try clear hi); (try clear ho0)))
  go_ret
  exact ⟨_, by first | rfl | (simp [*, errW_none, errW_some, erT_no, erV_no, erT_at, erV_at] <;> rfl), by (with_reducible repeat (first | apply Kd.R_alloc | apply Kd.R_drewN | apply Kd.R_drew)); exact HO293.out, by repeat (first | (with_reducible first | exact HB.out | apply below_alloc | apply pw_below_drewN | apply below_drew1 | refine below_set ?_ GE289.out) | exact HB.out)⟩
 ·replace c4 := Bool.eq_false_iff.mpr c4
  subst c4
  have H1 : (some ([] : List Int)) = some r := by rw [if_neg (show ¬ (false = true) by decide)] at H; exact H
  clear H
  have H := H1
  clear H1
  obtain rfl := Option.some.inj H
  go_enter Tryd.func46, Tryd.ntmps46
  go_wp2_with (first | ((with_reducible refine gate_dst (N := 2) rfl ?_); refine box_event ?hg (N := 2) ?hd (cs := #[.slice A0_0 l0_0.length c0_0]) (t := 24) ?hr ?_; (case hd => rfl); (case hg => rfl); (case hr => first | (go_simp; done) | (go_simp; rfl)); intro gb289 hg w11 hbox hb; have n0_ := Aside0.mk (below_step (go_b HB.out) hb); have n1_ := Aside0.mk (hbox); have n2_ := Aside0.mk ((by rw [hg]; exact (below_size (go_b HB.out)) : w.heap.size ≤ gb289)); have n3_ := n2_; clear HB; have HB := n0_; have BK289 := n1_; have GW289 := n2_; have GE289 := n3_; clear n0_ n1_ n2_ n3_; clear hb hbox hg; have hcz12_0 : w11.cell? ⟨gb289, 0, none⟩ = some (.slice A0_0 l0_0.length c0_0) := (blk_cell BK289.out 0).trans rfl; have hfz12_0 := blk_frozen BK289.out 0) | ((with_reducible refine gate_callee (f := 49) rfl ?_); refine goesL_ (some 7) rfl rfl Tryd.func49 (by kernel_rfl) rfl #[.agg #[.slice A0_0 l0_0.length c0_0], .int .i64 a1] rfl (by (try simp only [List.map_toArray, List.map_cons, List.map_nil]); first | done | rfl | (simp only [List.length_drop, List.length_take]; rfl)) ?_; (with_reducible refine (cavilref15_In.calls _ _ l0_0 a1 false _ ?side1 ?side2 A3.out).mono ?_); (case side1 => repeat (first | exact (Kd.C_below HR0_0.out HB.out) | (with_reducible refine Kd.C_alloc ?_ _) | (with_reducible refine Kd.C_drewN ?_ _) | (with_reducible refine Kd.C_drew ?_))); (case side2 => exact HC0_0.out); rintro e w13 ⟨rfl, hb⟩; refine ⟨_, rfl, ?_⟩; have n0_ := Aside0.mk (blk_below (g := gb289) (o := .cells #[.slice A0_0 l0_0.length c0_0] 24 (0, 0)) (go_k BK289.out) hb); have n1_ := Aside0.mk (below_step (go_b1 HB.out GE289.out) hb); clear BK289; clear HB; have BK289 := n0_; have HB := n1_; clear n0_ n1_; (try clear hb); (try clear hb2); (try clear hk); (try clear hi)))
  go_ret
  exact ⟨_, by first | rfl | (simp [*, errW_none, errW_some, erT_no, erV_no, erT_at, erV_at] <;> rfl), by first | exact Kd.R_nil _ _ _ _ _ | exact Kd.N_nil _ _ _ _ _ | exact Kd.V_nil _ _ _ _ _ | exact Kd.Q_nil _ _ _ _ _ | exact Kd.S_nil _ _ _ _ _, by repeat (first | (with_reducible first | exact HB.out | apply below_alloc | apply pw_below_drewN | apply below_drew1 | refine below_set ?_ GE289.out) | exact HB.out)⟩

/-! ### cavilref15_Kid: function 47 -/
def cavilref15_Kid.f (l0_0 : List (S33)) (a1 : Int) (a2 : Int) : Option (Int) := (cavilref15_In.f l0_0 a1).bind fun t295 => (if t295 = true then (if a2 < 0 then (some (-1)) else (if 0 ≤ a1 then (if a1 < (l0_0.length : Int) then (if a2 ≥ (((rd_T33 l0_0 a1).f3).length : Int) then (some (-1)) else (if 0 ≤ a2 then (if a2 < (((rd_T33 l0_0 a1).f3).length : Int) then (some (rd ((rd_T33 l0_0 a1).f3) a2)) else (none)) else (none))) else (none)) else (none))) else (some (-1)))
set_option maxHeartbeats 8000000 in
set_option maxRecDepth 100000 in
theorem cavilref15_Kid.calls (A0_0 : Option Addr) (c0_0 : Nat) (l0_0 : List (S33)) (a1 : Int) (a2 : Int) (r : Int) (w : World) (hr0_0 : Kd.C k33 w A0_0 l0_0.length l0_0) (hc0_0 : l0_0.length ≤ c0_0) (h : cavilref15_Kid.f l0_0 a1 a2 = some r) :
  Calls Tryd.prog 47 #[.agg #[.slice A0_0 l0_0.length c0_0], .int .i64 a1, .int .i64 a2] w fun e w' => e = .returned (.int .i64 r) ∧ Below w.heap.size w w' := by
 have hu24 := Tryd.underlying24
 have HR0_0 := Aside0.mk hr0_0
 have HC0_0 := Aside0.mk hc0_0
 clear hr0_0 hc0_0
 have HB := Aside0.mk (Below.refl w.heap.size w)
 have H : ((cavilref15_In.f l0_0 a1).bind fun t295 => (if t295 = true then (if a2 < 0 then (some (-1)) else (if 0 ≤ a1 then (if a1 < (l0_0.length : Int) then (if a2 ≥ (((rd_T33 l0_0 a1).f3).length : Int) then (some (-1)) else (if 0 ≤ a2 then (if a2 < (((rd_T33 l0_0 a1).f3).length : Int) then (some (rd ((rd_T33 l0_0 a1).f3) a2)) else (none)) else (none))) else (none)) else (none))) else (some (-1)))) = some r := h
 clear h
 replace H := Option.bind_eq_some_iff.mp H
 obtain ⟨t295, A40, H⟩ := H
 replace H : (if t295 = true then (if a2 < 0 then (some (-1)) else (if 0 ≤ a1 then (if a1 < (l0_0.length : Int) then (if a2 ≥ (((rd_T33 l0_0 a1).f3).length : Int) then (some (-1)) else (if 0 ≤ a2 then (if a2 < (((rd_T33 l0_0 a1).f3).length : Int) then (some (rd ((rd_T33 l0_0 a1).f3) a2)) else (none)) else (none))) else (none)) else (none))) else (some (-1))) = some r := H
 have A4 := Aside0.mk A40
 clear A40
 by_cases c5 : t295 = true
 ·subst c5
  have H1 : (if a2 < 0 then (some (-1)) else (if 0 ≤ a1 then (if a1 < (l0_0.length : Int) then (if a2 ≥ (((rd_T33 l0_0 a1).f3).length : Int) then (some (-1)) else (if 0 ≤ a2 then (if a2 < (((rd_T33 l0_0 a1).f3).length : Int) then (some (rd ((rd_T33 l0_0 a1).f3) a2)) else (none)) else (none))) else (none)) else (none))) = some r := by rw [if_pos rfl] at H; exact H
  clear H
  have H := H1
  clear H1
  by_cases c6 : a2 < 0
  ·rw [if_pos c6] at H
   have c6b0 : decide (a2 < 0) = true := decide_eq_true c6
   clear c6
   obtain rfl := Option.some.inj H
   go_enter Tryd.func47, Tryd.ntmps47
   go_wp2_with (first | ((with_reducible refine gate_dst (N := 3) rfl ?_); (try (refine gate_guard (by rfl) ?_; dsimp only)); refine box_event ?hg (N := 3) ?hd (cs := #[.slice A0_0 l0_0.length c0_0]) (t := 24) ?hr ?_; (case hd => rfl); (case hg => rfl); (case hr => first | (go_simp; done) | (go_simp; rfl)); intro gb294 hg w7 hbox hb; have n0_ := Aside0.mk (below_step (go_b HB.out) hb); have n1_ := Aside0.mk (hbox); have n2_ := Aside0.mk ((by rw [hg]; exact (below_size (go_b HB.out)) : w.heap.size ≤ gb294)); have n3_ := n2_; clear HB; have HB := n0_; have BK294 := n1_; have GW294 := n2_; have GE294 := n3_; clear n0_ n1_ n2_ n3_; clear hb hbox hg; have hcz8_0 : w7.cell? ⟨gb294, 0, none⟩ = some (.slice A0_0 l0_0.length c0_0) := (blk_cell BK294.out 0).trans rfl; have hfz8_0 := blk_frozen BK294.out 0) | ((with_reducible refine gate_callee (f := 49) rfl ?_); refine goesL_ (some 9) rfl rfl Tryd.func49 (by kernel_rfl) rfl #[.agg #[.slice A0_0 l0_0.length c0_0], .int .i64 a1] rfl (by (try simp only [List.map_toArray, List.map_cons, List.map_nil]); first | done | rfl | (simp only [List.length_drop, List.length_take]; rfl)) ?_; (with_reducible refine (cavilref15_In.calls _ _ l0_0 a1 true _ ?side1 ?side2 A4.out).mono ?_); (case side1 => repeat (first | exact (Kd.C_below HR0_0.out HB.out) | (with_reducible refine Kd.C_alloc ?_ _) | (with_reducible refine Kd.C_drewN ?_ _) | (with_reducible refine Kd.C_drew ?_))); (case side2 => exact HC0_0.out); rintro e w9 ⟨rfl, hb⟩; refine ⟨_, rfl, ?_⟩; have n0_ := Aside0.mk (blk_below (g := gb294) (o := .cells #[.slice A0_0 l0_0.length c0_0] 24 (0, 0)) (go_k BK294.out) hb); have n1_ := Aside0.mk (below_step (go_b1 HB.out GE294.out) hb); clear BK294; clear HB; have BK294 := n0_; have HB := n1_; clear n0_ n1_; (try clear hb); (try clear hb2); (try clear hk); (try clear hi)))
   go_ret
   exact ⟨by first | rfl | (simp [*, errW_none, errW_some, erT_no, erV_no, erT_at, erV_at] <;> rfl), by repeat (first | (with_reducible first | exact HB.out | apply below_alloc | apply pw_below_drewN | apply below_drew1 | refine below_set ?_ GE294.out) | exact HB.out)⟩
  ·rw [if_neg c6] at H
   have c6b0 : decide (a2 < 0) = false := decide_eq_false c6
   clear c6
   by_cases c10 : 0 ≤ a1
   ·rw [if_pos c10] at H
    have c10b0 : decide (0 ≤ a1) = true := decide_eq_true c10
    clear c10
    by_cases c11 : a1 < (l0_0.length : Int)
    ·rw [if_pos c11] at H
     have c11b0 : decide (a1 < (l0_0.length : Int)) = true := decide_eq_true c11
     clear c11
     by_cases c12 : a2 ≥ (((rd_T33 l0_0 a1).f3).length : Int)
     ·rw [if_pos c12] at H
      have c12b0 : decide ((((rd_T33 l0_0 a1).f3).length : Int) ≤ a2) = true := decide_eq_true c12
      clear c12
      obtain rfl := Option.some.inj H
      go_enter Tryd.func47, Tryd.ntmps47
      go_wp2_with (first | ((with_reducible refine gate_dst (N := 3) rfl ?_); (try (refine gate_guard (by rfl) ?_; dsimp only)); refine box_event ?hg (N := 3) ?hd (cs := #[.slice A0_0 l0_0.length c0_0]) (t := 24) ?hr ?_; (case hd => rfl); (case hg => rfl); (case hr => first | (go_simp; done) | (go_simp; rfl)); intro gb294 hg w13 hbox hb; have n0_ := Aside0.mk (below_step (go_b HB.out) hb); have n1_ := Aside0.mk (hbox); have n2_ := Aside0.mk ((by rw [hg]; exact (below_size (go_b HB.out)) : w.heap.size ≤ gb294)); have n3_ := n2_; clear HB; have HB := n0_; have BK294 := n1_; have GW294 := n2_; have GE294 := n3_; clear n0_ n1_ n2_ n3_; clear hb hbox hg; have hcz14_0 : w13.cell? ⟨gb294, 0, none⟩ = some (.slice A0_0 l0_0.length c0_0) := (blk_cell BK294.out 0).trans rfl; have hfz14_0 := blk_frozen BK294.out 0) | ((with_reducible refine gate_callee (f := 49) rfl ?_); refine goesL_ (some 9) rfl rfl Tryd.func49 (by kernel_rfl) rfl #[.agg #[.slice A0_0 l0_0.length c0_0], .int .i64 a1] rfl (by (try simp only [List.map_toArray, List.map_cons, List.map_nil]); first | done | rfl | (simp only [List.length_drop, List.length_take]; rfl)) ?_; (with_reducible refine (cavilref15_In.calls _ _ l0_0 a1 true _ ?side1 ?side2 A4.out).mono ?_); (case side1 => repeat (first | exact (Kd.C_below HR0_0.out HB.out) | (with_reducible refine Kd.C_alloc ?_ _) | (with_reducible refine Kd.C_drewN ?_ _) | (with_reducible refine Kd.C_drew ?_))); (case side2 => exact HC0_0.out); rintro e w15 ⟨rfl, hb⟩; refine ⟨_, rfl, ?_⟩; have n0_ := Aside0.mk (blk_below (g := gb294) (o := .cells #[.slice A0_0 l0_0.length c0_0] 24 (0, 0)) (go_k BK294.out) hb); have n1_ := Aside0.mk (below_step (go_b1 HB.out GE294.out) hb); clear BK294; clear HB; have BK294 := n0_; have HB := n1_; clear n0_ n1_; (try clear hb); (try clear hb2); (try clear hk); (try clear hi); have hcz16_0 : w15.cell? ⟨gb294, 0, none⟩ = some (.slice A0_0 l0_0.length c0_0) := (blk_cell BK294.out 0).trans rfl; have hfz16_0 := blk_frozen BK294.out 0; have p296 : 0 ≤ (a1 : Int) := of_dec; have q296 : a1 < (l0_0.length : Int) := of_dec; obtain ⟨ad296, A296_3, c296_3, e296, hx296_0, hx296_1, hx296_2, hx296_3, hl296_3, hi296_3⟩ := at_T33 HR0_0.out a1 p296 q296; cases e296; replace hx296_0 := cell_b HB.out hx296_0; replace hx296_1 := cell_b HB.out hx296_1; replace hx296_2 := cell_b HB.out hx296_2; replace hx296_3 := cell_b HB.out hx296_3; have HR296_3 := Aside0.mk hi296_3; have HC296_3 := Aside0.mk hl296_3; clear hi296_3 hl296_3; replace p296 := eq_true p296; replace q296 := eq_true q296))
      go_ret
      exact ⟨by first | rfl | (simp [*, errW_none, errW_some, erT_no, erV_no, erT_at, erV_at] <;> rfl), by repeat (first | (with_reducible first | exact HB.out | apply below_alloc | apply pw_below_drewN | apply below_drew1 | refine below_set ?_ GE294.out) | exact HB.out)⟩
     ·rw [if_neg c12] at H
      have c12b0 : decide ((((rd_T33 l0_0 a1).f3).length : Int) ≤ a2) = false := decide_eq_false c12
      clear c12
      by_cases c17 : 0 ≤ a2
      ·rw [if_pos c17] at H
       have c17b0 : decide (0 ≤ a2) = true := decide_eq_true c17
       clear c17
       by_cases c18 : a2 < (((rd_T33 l0_0 a1).f3).length : Int)
       ·rw [if_pos c18] at H
        have c18b0 : decide (a2 < (((rd_T33 l0_0 a1).f3).length : Int)) = true := decide_eq_true c18
        clear c18
        obtain rfl := Option.some.inj H
        go_enter Tryd.func47, Tryd.ntmps47
        go_wp2_with (first | ((with_reducible refine gate_dst (N := 3) rfl ?_); (try (refine gate_guard (by rfl) ?_; dsimp only)); refine box_event ?hg (N := 3) ?hd (cs := #[.slice A0_0 l0_0.length c0_0]) (t := 24) ?hr ?_; (case hd => rfl); (case hg => rfl); (case hr => first | (go_simp; done) | (go_simp; rfl)); intro gb294 hg w19 hbox hb; have n0_ := Aside0.mk (below_step (go_b HB.out) hb); have n1_ := Aside0.mk (hbox); have n2_ := Aside0.mk ((by rw [hg]; exact (below_size (go_b HB.out)) : w.heap.size ≤ gb294)); have n3_ := n2_; clear HB; have HB := n0_; have BK294 := n1_; have GW294 := n2_; have GE294 := n3_; clear n0_ n1_ n2_ n3_; clear hb hbox hg; have hcz20_0 : w19.cell? ⟨gb294, 0, none⟩ = some (.slice A0_0 l0_0.length c0_0) := (blk_cell BK294.out 0).trans rfl; have hfz20_0 := blk_frozen BK294.out 0) | ((with_reducible refine gate_callee (f := 49) rfl ?_); refine goesL_ (some 9) rfl rfl Tryd.func49 (by kernel_rfl) rfl #[.agg #[.slice A0_0 l0_0.length c0_0], .int .i64 a1] rfl (by (try simp only [List.map_toArray, List.map_cons, List.map_nil]); first | done | rfl | (simp only [List.length_drop, List.length_take]; rfl)) ?_; (with_reducible refine (cavilref15_In.calls _ _ l0_0 a1 true _ ?side1 ?side2 A4.out).mono ?_); (case side1 => repeat (first | exact (Kd.C_below HR0_0.out HB.out) | (with_reducible refine Kd.C_alloc ?_ _) | (with_reducible refine Kd.C_drewN ?_ _) | (with_reducible refine Kd.C_drew ?_))); (case side2 => exact HC0_0.out); rintro e w21 ⟨rfl, hb⟩; refine ⟨_, rfl, ?_⟩; have n0_ := Aside0.mk (blk_below (g := gb294) (o := .cells #[.slice A0_0 l0_0.length c0_0] 24 (0, 0)) (go_k BK294.out) hb); have n1_ := Aside0.mk (below_step (go_b1 HB.out GE294.out) hb); clear BK294; clear HB; have BK294 := n0_; have HB := n1_; clear n0_ n1_; (try clear hb); (try clear hb2); (try clear hk); (try clear hi); have hcz22_0 : w21.cell? ⟨gb294, 0, none⟩ = some (.slice A0_0 l0_0.length c0_0) := (blk_cell BK294.out 0).trans rfl; have hfz22_0 := blk_frozen BK294.out 0; have p296 : 0 ≤ (a1 : Int) := of_dec; have q296 : a1 < (l0_0.length : Int) := of_dec; obtain ⟨ad296, A296_3, c296_3, e296, hx296_0, hx296_1, hx296_2, hx296_3, hl296_3, hi296_3⟩ := at_T33 HR0_0.out a1 p296 q296; cases e296; replace hx296_0 := cell_b HB.out hx296_0; replace hx296_1 := cell_b HB.out hx296_1; replace hx296_2 := cell_b HB.out hx296_2; replace hx296_3 := cell_b HB.out hx296_3; have HR296_3 := Aside0.mk hi296_3; have HC296_3 := Aside0.mk hl296_3; clear hi296_3 hl296_3; replace p296 := eq_true p296; replace q296 := eq_true q296; have p297 : 0 ≤ (a1 : Int) := of_dec; have q297 : a1 < (l0_0.length : Int) := of_dec; obtain ⟨ad297, A297_3, c297_3, e297, hx297_0, hx297_1, hx297_2, hx297_3, hl297_3, hi297_3⟩ := at_T33 HR0_0.out a1 p297 q297; obtain rfl : ad296 = ad297 := (by injection e297); replace hx297_0 := cell_b HB.out hx297_0; replace hx297_1 := cell_b HB.out hx297_1; replace hx297_2 := cell_b HB.out hx297_2; replace hx297_3 := cell_b HB.out hx297_3; have HR297_3 := Aside0.mk hi297_3; have HC297_3 := Aside0.mk hl297_3; clear hi297_3 hl297_3; replace p297 := eq_true p297; replace q297 := eq_true q297; have ea_ := Option.some.inj (hx296_3.symm.trans hx297_3); injection ea_ with ea_ en_ ec_; subst ea_; subst ec_; clear en_; have p298 : 0 ≤ (a2 : Int) := of_dec; have q298 : a2 < (((rd_T33 l0_0 a1).f3).length : Int) := of_dec; obtain ⟨ad298, e298, hx298_0⟩ := Kd.at_int HR297_3.out a2 p298 q298; cases e298; replace hx298_0 := cell_b HB.out hx298_0; replace p298 := eq_true p298; replace q298 := eq_true q298))
        go_ret
        exact ⟨by first | rfl | (simp [*, errW_none, errW_some, erT_no, erV_no, erT_at, erV_at] <;> rfl), by repeat (first | (with_reducible first | exact HB.out | apply below_alloc | apply pw_below_drewN | apply below_drew1 | refine below_set ?_ GE294.out) | exact HB.out)⟩
       ·rw [if_neg c18] at H
        exact absurd H (by simp)
      ·rw [if_neg c17] at H
       exact absurd H (by simp)
    ·rw [if_neg c11] at H
     exact absurd H (by simp)
   ·rw [if_neg c10] at H
    exact absurd H (by simp)
 ·replace c5 := Bool.eq_false_iff.mpr c5
  subst c5
  have H1 : (some (-1)) = some r := by rw [if_neg (show ¬ (false = true) by decide)] at H; exact H
  clear H
  have H := H1
  clear H1
  obtain rfl := Option.some.inj H
  go_enter Tryd.func47, Tryd.ntmps47
  go_wp2_with (first | ((with_reducible refine gate_dst (N := 3) rfl ?_); (try (refine gate_guard (by rfl) ?_; dsimp only)); refine box_event ?hg (N := 3) ?hd (cs := #[.slice A0_0 l0_0.length c0_0]) (t := 24) ?hr ?_; (case hd => rfl); (case hg => rfl); (case hr => first | (go_simp; done) | (go_simp; rfl)); intro gb294 hg w23 hbox hb; have n0_ := Aside0.mk (below_step (go_b HB.out) hb); have n1_ := Aside0.mk (hbox); have n2_ := Aside0.mk ((by rw [hg]; exact (below_size (go_b HB.out)) : w.heap.size ≤ gb294)); have n3_ := n2_; clear HB; have HB := n0_; have BK294 := n1_; have GW294 := n2_; have GE294 := n3_; clear n0_ n1_ n2_ n3_; clear hb hbox hg; have hcz24_0 : w23.cell? ⟨gb294, 0, none⟩ = some (.slice A0_0 l0_0.length c0_0) := (blk_cell BK294.out 0).trans rfl; have hfz24_0 := blk_frozen BK294.out 0) | ((with_reducible refine gate_callee (f := 49) rfl ?_); refine goesL_ (some 9) rfl rfl Tryd.func49 (by kernel_rfl) rfl #[.agg #[.slice A0_0 l0_0.length c0_0], .int .i64 a1] rfl (by (try simp only [List.map_toArray, List.map_cons, List.map_nil]); first | done | rfl | (simp only [List.length_drop, List.length_take]; rfl)) ?_; (with_reducible refine (cavilref15_In.calls _ _ l0_0 a1 false _ ?side1 ?side2 A4.out).mono ?_); (case side1 => repeat (first | exact (Kd.C_below HR0_0.out HB.out) | (with_reducible refine Kd.C_alloc ?_ _) | (with_reducible refine Kd.C_drewN ?_ _) | (with_reducible refine Kd.C_drew ?_))); (case side2 => exact HC0_0.out); rintro e w25 ⟨rfl, hb⟩; refine ⟨_, rfl, ?_⟩; have n0_ := Aside0.mk (blk_below (g := gb294) (o := .cells #[.slice A0_0 l0_0.length c0_0] 24 (0, 0)) (go_k BK294.out) hb); have n1_ := Aside0.mk (below_step (go_b1 HB.out GE294.out) hb); clear BK294; clear HB; have BK294 := n0_; have HB := n1_; clear n0_ n1_; (try clear hb); (try clear hb2); (try clear hk); (try clear hi)))
  go_ret
  exact ⟨by first | rfl | (simp [*, errW_none, errW_some, erT_no, erV_no, erT_at, erV_at] <;> rfl), by repeat (first | (with_reducible first | exact HB.out | apply below_alloc | apply pw_below_drewN | apply below_drew1 | refine below_set ?_ GE294.out) | exact HB.out)⟩

/-! ### cavilref15_Word: function 48 -/
def cavilref15_Word.j0 : Nat → List Int → List (S103) → Bool → Int → Int → Int → List Int → Option (ByteArray)
 | 0, _, _, _, _, _, _, _ => none
 | k + 1, x0, x1, x34, x303000, x303001, x303002, x303003 => if x34 = true then (some (⟨#[]⟩ : ByteArray)) else (if 0 ≤ x303001 then (if x303001 < (x1.length : Int) then (if ((rd_T103 x1 x303001).f1) < 0 then (some (⟨#[]⟩ : ByteArray)) else (if ((rd_T103 x1 x303001).f1) > ((rd_T103 x1 x303001).f2) then (some (⟨#[]⟩ : ByteArray)) else (if ((rd_T103 x1 x303001).f2) > (x0.length : Int) then (some (⟨#[]⟩ : ByteArray)) else (if 0 ≤ ((rd_T103 x1 x303001).f1) then (if ((rd_T103 x1 x303001).f1) ≤ ((rd_T103 x1 x303001).f2) then (if ((rd_T103 x1 x303001).f2) ≤ (x0.length : Int) then (some (strOfNums ((x0.take (((rd_T103 x1 x303001).f2) : Int).toNat).drop (((rd_T103 x1 x303001).f1) : Int).toNat))) else (none)) else (none)) else (none))))) else (none)) else (none))
def cavilref15_Word.f (k : Nat) (l0 : List Int) (l1 : List (S103)) (l2_0 : List (S33)) (a3 : Int) : Option (ByteArray) := (cavilref15_In.f l2_0 a3).bind fun t300 => (if t300 = true then (if 0 ≤ a3 then (if a3 < (l2_0.length : Int) then (if ((rd_T33 l2_0 a3).f0) = 2 then (cavilref15_Word.j0 k l0 l1 (((rd_T33 l2_0 a3).f1) == ((rd_T33 l2_0 a3).f2)) ((rd_T33 l2_0 a3).f0) ((rd_T33 l2_0 a3).f1) ((rd_T33 l2_0 a3).f2) ((rd_T33 l2_0 a3).f3)) else (if ((rd_T33 l2_0 a3).f0) = 3 then (cavilref15_Word.j0 k l0 l1 (((rd_T33 l2_0 a3).f1) == ((rd_T33 l2_0 a3).f2)) ((rd_T33 l2_0 a3).f0) ((rd_T33 l2_0 a3).f1) ((rd_T33 l2_0 a3).f2) ((rd_T33 l2_0 a3).f3)) else (cavilref15_Word.j0 k l0 l1 true ((rd_T33 l2_0 a3).f0) ((rd_T33 l2_0 a3).f1) ((rd_T33 l2_0 a3).f2) ((rd_T33 l2_0 a3).f3)))) else (none)) else (none)) else (some (⟨#[]⟩ : ByteArray)))
theorem cavilref15_Word.mono_l : ∀ k, (∀ y0 y1 y2 y3 y4 y5 y6, LeO (cavilref15_Word.j0 k y0 y1 y2 y3 y4 y5 y6) (cavilref15_Word.j0 (k + 1) y0 y1 y2 y3 y4 y5 y6))
 | 0 => fun _ _ _ _ _ _ _ r h => by simp [cavilref15_Word.j0] at h
 | k + 1 => by
  have ih0 := cavilref15_Word.mono_l k
  ·intro y0 y1 y2 y3 y4 y5 y6
   unfold cavilref15_Word.j0
   repeat' first
   | (with_reducible exact ih0 _ _ _ _ _ _ _)
   | (with_reducible exact LeO.refl _)
   | (with_reducible exact LeO.none _)
   | (with_reducible refine LeO.ite ?_ ?_)
   | (with_reducible refine LeO.bind ?_ (fun _ => ?_))
   | exact ih0 _ _ _ _ _ _ _
   | exact LeO.none _
   | refine LeO.ite ?_ ?_
   | refine LeO.bind ?_ (fun _ => ?_)
theorem cavilref15_Word.mono : ∀ a0 a1 a2 a3 k, LeO (cavilref15_Word.f k a0 a1 a2 a3) (cavilref15_Word.f (k + 1) a0 a1 a2 a3) := by
 intro a0 a1 a2 a3 k
 have ih0 := cavilref15_Word.mono_l k
 unfold cavilref15_Word.f
 repeat' first
   | (with_reducible exact ih0 _ _ _ _ _ _ _)
   | (with_reducible exact LeO.refl _)
   | (with_reducible exact LeO.none _)
   | (with_reducible refine LeO.ite ?_ ?_)
   | (with_reducible refine LeO.bind ?_ (fun _ => ?_))
   | exact ih0 _ _ _ _ _ _ _
   | exact LeO.none _
   | refine LeO.ite ?_ ?_
   | refine LeO.bind ?_ (fun _ => ?_)
set_option maxHeartbeats 8000000 in
set_option maxRecDepth 100000 in
theorem cavilref15_Word.calls (k : Nat) (A0 : Option Addr) (c0 : Nat) (l0 : List Int) (A1 : Option Addr) (c1 : Nat) (l1 : List (S103)) (A2_0 : Option Addr) (c2_0 : Nat) (l2_0 : List (S33)) (a3 : Int) (r : ByteArray) (w : World) (hr0 : Kd.C (Kd.int .u8) w A0 l0.length l0) (hc0 : l0.length ≤ c0) (hr1 : Kd.C k103 w A1 l1.length l1) (hc1 : l1.length ≤ c1) (hr2_0 : Kd.C k33 w A2_0 l2_0.length l2_0) (hc2_0 : l2_0.length ≤ c2_0) (h : cavilref15_Word.f k l0 l1 l2_0 a3 = some r) :
  Calls Tryd.prog 48 #[.slice A0 l0.length c0, .slice A1 l1.length c1, .agg #[.slice A2_0 l2_0.length c2_0], .int .i64 a3] w fun e w' => e = .returned (.string r) ∧ Below w.heap.size w w' := by
 have hu24 := Tryd.underlying24
 have hu33 := Tryd.underlying33
 have hu103 := Tryd.underlying103
 have HR0 := Aside0.mk hr0
 have HC0 := Aside0.mk hc0
 clear hr0 hc0
 have HR1 := Aside0.mk hr1
 have HC1 := Aside0.mk hc1
 clear hr1 hc1
 have HR2_0 := Aside0.mk hr2_0
 have HC2_0 := Aside0.mk hc2_0
 clear hr2_0 hc2_0
 have HB := Aside0.mk (Below.refl w.heap.size w)
 have H : ((cavilref15_In.f l2_0 a3).bind fun t300 => (if t300 = true then (if 0 ≤ a3 then (if a3 < (l2_0.length : Int) then (if ((rd_T33 l2_0 a3).f0) = 2 then (cavilref15_Word.j0 k l0 l1 (((rd_T33 l2_0 a3).f1) == ((rd_T33 l2_0 a3).f2)) ((rd_T33 l2_0 a3).f0) ((rd_T33 l2_0 a3).f1) ((rd_T33 l2_0 a3).f2) ((rd_T33 l2_0 a3).f3)) else (if ((rd_T33 l2_0 a3).f0) = 3 then (cavilref15_Word.j0 k l0 l1 (((rd_T33 l2_0 a3).f1) == ((rd_T33 l2_0 a3).f2)) ((rd_T33 l2_0 a3).f0) ((rd_T33 l2_0 a3).f1) ((rd_T33 l2_0 a3).f2) ((rd_T33 l2_0 a3).f3)) else (cavilref15_Word.j0 k l0 l1 true ((rd_T33 l2_0 a3).f0) ((rd_T33 l2_0 a3).f1) ((rd_T33 l2_0 a3).f2) ((rd_T33 l2_0 a3).f3)))) else (none)) else (none)) else (some (⟨#[]⟩ : ByteArray)))) = some r := h
 clear h
 replace H := Option.bind_eq_some_iff.mp H
 obtain ⟨t300, A50, H⟩ := H
 replace H : (if t300 = true then (if 0 ≤ a3 then (if a3 < (l2_0.length : Int) then (if ((rd_T33 l2_0 a3).f0) = 2 then (cavilref15_Word.j0 k l0 l1 (((rd_T33 l2_0 a3).f1) == ((rd_T33 l2_0 a3).f2)) ((rd_T33 l2_0 a3).f0) ((rd_T33 l2_0 a3).f1) ((rd_T33 l2_0 a3).f2) ((rd_T33 l2_0 a3).f3)) else (if ((rd_T33 l2_0 a3).f0) = 3 then (cavilref15_Word.j0 k l0 l1 (((rd_T33 l2_0 a3).f1) == ((rd_T33 l2_0 a3).f2)) ((rd_T33 l2_0 a3).f0) ((rd_T33 l2_0 a3).f1) ((rd_T33 l2_0 a3).f2) ((rd_T33 l2_0 a3).f3)) else (cavilref15_Word.j0 k l0 l1 true ((rd_T33 l2_0 a3).f0) ((rd_T33 l2_0 a3).f1) ((rd_T33 l2_0 a3).f2) ((rd_T33 l2_0 a3).f3)))) else (none)) else (none)) else (some (⟨#[]⟩ : ByteArray))) = some r := H
 have A5 := Aside0.mk A50
 clear A50
 by_cases c6 : t300 = true
 ·subst c6
  have H1 : (if 0 ≤ a3 then (if a3 < (l2_0.length : Int) then (if ((rd_T33 l2_0 a3).f0) = 2 then (cavilref15_Word.j0 k l0 l1 (((rd_T33 l2_0 a3).f1) == ((rd_T33 l2_0 a3).f2)) ((rd_T33 l2_0 a3).f0) ((rd_T33 l2_0 a3).f1) ((rd_T33 l2_0 a3).f2) ((rd_T33 l2_0 a3).f3)) else (if ((rd_T33 l2_0 a3).f0) = 3 then (cavilref15_Word.j0 k l0 l1 (((rd_T33 l2_0 a3).f1) == ((rd_T33 l2_0 a3).f2)) ((rd_T33 l2_0 a3).f0) ((rd_T33 l2_0 a3).f1) ((rd_T33 l2_0 a3).f2) ((rd_T33 l2_0 a3).f3)) else (cavilref15_Word.j0 k l0 l1 true ((rd_T33 l2_0 a3).f0) ((rd_T33 l2_0 a3).f1) ((rd_T33 l2_0 a3).f2) ((rd_T33 l2_0 a3).f3)))) else (none)) else (none)) = some r := by rw [if_pos rfl] at H; exact H
  clear H
  have H := H1
  clear H1
  by_cases c7 : 0 ≤ a3
  ·rw [if_pos c7] at H
   have c7b0 : decide (0 ≤ a3) = true := decide_eq_true c7
   clear c7
   by_cases c8 : a3 < (l2_0.length : Int)
   ·rw [if_pos c8] at H
    have c8b0 : decide (a3 < (l2_0.length : Int)) = true := decide_eq_true c8
    clear c8
    have HC9 := Aside0.mk H
    clear H
    go_enter Tryd.func48, Tryd.ntmps48
    go_upto_region 4 with (first | ((with_reducible refine gate_dst (N := 6) rfl ?_); (try (refine gate_guard (by rfl) ?_; dsimp only)); refine box_event ?hg (N := 6) ?hd (cs := #[.slice A2_0 l2_0.length c2_0]) (t := 24) ?hr ?_; (case hd => rfl); (case hg => rfl); (case hr => first | (go_simp; done) | (go_simp; rfl)); intro gb299 hg w10 hbox hb; have n0_ := Aside0.mk (below_step (go_b HB.out) hb); have n1_ := Aside0.mk (hbox); have n2_ := Aside0.mk ((by rw [hg]; exact (below_size (go_b HB.out)) : w.heap.size ≤ gb299)); have n3_ := n2_; clear HB; have HB := n0_; have BK299 := n1_; have GW299 := n2_; have GE299 := n3_; clear n0_ n1_ n2_ n3_; clear hb hbox hg; have hcz11_0 : w10.cell? ⟨gb299, 0, none⟩ = some (.slice A2_0 l2_0.length c2_0) := (blk_cell BK299.out 0).trans rfl; have hfz11_0 := blk_frozen BK299.out 0) | ((with_reducible refine gate_callee (f := 49) rfl ?_); refine goesL_ (some 13) rfl rfl Tryd.func49 (by kernel_rfl) rfl #[.agg #[.slice A2_0 l2_0.length c2_0], .int .i64 a3] rfl (by (try simp only [List.map_toArray, List.map_cons, List.map_nil]); first | done | rfl | (simp only [List.length_drop, List.length_take]; rfl)) ?_; (with_reducible refine (cavilref15_In.calls _ _ l2_0 a3 true _ ?side1 ?side2 A5.out).mono ?_); (case side1 => repeat (first | exact (Kd.C_below HR2_0.out HB.out) | (with_reducible refine Kd.C_alloc ?_ _) | (with_reducible refine Kd.C_drewN ?_ _) | (with_reducible refine Kd.C_drew ?_))); (case side2 => exact HC2_0.out); rintro e w12 ⟨rfl, hb⟩; refine ⟨_, rfl, ?_⟩; have n0_ := Aside0.mk (blk_below (g := gb299) (o := .cells #[.slice A2_0 l2_0.length c2_0] 24 (0, 0)) (go_k BK299.out) hb); have n1_ := Aside0.mk (below_step (go_b1 HB.out GE299.out) hb); clear BK299; clear HB; have BK299 := n0_; have HB := n1_; clear n0_ n1_; (try clear hb); (try clear hb2); (try clear hk); (try clear hi); have hcz13_0 : w12.cell? ⟨gb299, 0, none⟩ = some (.slice A2_0 l2_0.length c2_0) := (blk_cell BK299.out 0).trans rfl; have hfz13_0 := blk_frozen BK299.out 0; have p301 : 0 ≤ (a3 : Int) := of_dec; have q301 : a3 < (l2_0.length : Int) := of_dec; obtain ⟨ad301, A301_3, c301_3, e301, hx301_0, hx301_1, hx301_2, hx301_3, hl301_3, hi301_3⟩ := at_T33 HR2_0.out a3 p301 q301; cases e301; replace hx301_0 := cell_b HB.out hx301_0; replace hx301_1 := cell_b HB.out hx301_1; replace hx301_2 := cell_b HB.out hx301_2; replace hx301_3 := cell_b HB.out hx301_3; have HR301_3 := Aside0.mk hi301_3; have HC301_3 := Aside0.mk hl301_3; clear hi301_3 hl301_3; replace p301 := eq_true p301; replace q301 := eq_true q301) | ((with_reducible refine gate_dst (N := 9) rfl ?_); (try (refine gate_guard (by rfl) ?_; dsimp only)); refine box_event ?hg (N := 9) ?hd (cs := #[.int .i64 0, .int .i64 0, .int .i64 0, .slice none 0 0]) (t := 33) ?hr ?_; (case hd => rfl); (case hg => rfl); (case hr => first | (go_simp; done) | (go_simp; rfl)); intro gb302 hg w14 hbox hb; have n0_ := Aside0.mk (blk_below (g := gb299) (o := .cells #[.slice (some ad301) l2_0.length c2_0] 24 (0, 0)) (go_k BK299.out) hb); have n1_ := Aside0.mk (below_step (go_b1 HB.out GE299.out) hb); have n2_ := Aside0.mk (hbox); have n3_ := Aside0.mk ((by rw [hg]; exact (below_size (go_b1 HB.out GE299.out)) : w.heap.size ≤ gb302)); have n4_ := n3_; have n5_ := Aside0.mk ((by rw [hg]; exact Nat.ne_of_lt (blk_lt (g := gb299) (o := .cells #[.slice (some ad301) l2_0.length c2_0] 24 (0, 0)) (go_k BK299.out)) : gb299 ≠ gb302)); have n6_ := Aside0.mk ((by rw [hg]; exact Nat.ne_of_gt (blk_lt (g := gb299) (o := .cells #[.slice (some ad301) l2_0.length c2_0] 24 (0, 0)) (go_k BK299.out)) : gb302 ≠ gb299)); clear BK299; clear HB; have BK299 := n0_; have HB := n1_; have BK302 := n2_; have GW302 := n3_; have GE302 := n4_; have NB299_302 := n5_; have NB302_299 := n6_; clear n0_ n1_ n2_ n3_ n4_ n5_ n6_; clear hb hbox hg; have hnb15 := NB302_299.out; have hnc15 := NB299_302.out; have hcz16_0 : w14.cell? ⟨gb302, 0, none⟩ = some (.int .i64 0) := (blk_cell BK302.out 0).trans rfl; have hcz16_1 : w14.cell? ⟨gb302, 1, none⟩ = some (.int .i64 0) := (blk_cell BK302.out 1).trans rfl; have hcz16_2 : w14.cell? ⟨gb302, 2, none⟩ = some (.int .i64 0) := (blk_cell BK302.out 2).trans rfl; have hcz16_3 : w14.cell? ⟨gb302, 3, none⟩ = some (.slice none 0 0) := (blk_cell BK302.out 3).trans rfl; have hfz16_0 := blk_frozen BK302.out 0; have hfz16_1 := blk_frozen BK302.out 1; have hfz16_2 := blk_frozen BK302.out 2; have hfz16_3 := blk_frozen BK302.out 3))
    (try simp only [Act.put, List.setIfInBounds_toArray, List.set_cons_zero, List.set_cons_succ])
    go_cut [34] (fun v34 wc => ∃ (kq : Nat) (x34_8 : Bool), v34 = .bool x34_8 ∧ Aside0 (cavilref15_Word.j0 kq l0 l1 x34_8 ((rd_T33 l2_0 a3).f0) ((rd_T33 l2_0 a3).f1) ((rd_T33 l2_0 a3).f2) ((rd_T33 l2_0 a3).f3) = some r) ∧ Aside0 (kq ≤ k) ∧ Aside0 (wc.heap[gb299]? = some (.cells #[(.slice (some ad301) l2_0.length c2_0)] 24 (0, 0))) ∧ Aside0 (wc.heap[gb302]? = some (.cells #[.int .i64 ((rd_T33 l2_0 a3).f0), .int .i64 ((rd_T33 l2_0 a3).f1), .int .i64 ((rd_T33 l2_0 a3).f2), (.slice A301_3 ((rd_T33 l2_0 a3).f3).length c301_3)] 33 (0, 0))) ∧ Aside0 (Below w.heap.size w wc))
    case first =>
     have H := HC9.out
     clear HC9
     by_cases c17 : ((rd_T33 l2_0 a3).f0) = 2
     ·rw [if_pos c17] at H
      have c17b0 : (((rd_T33 l2_0 a3).f0) == 2) = true := beq_iff_eq.mpr c17
      have c17b1 : (((rd_T33 l2_0 a3).f0) != 2) = false := bne_eq_false_iff_eq.mpr c17
      clear c17
      (first | rw [c17b0] | (simp only [i64_w, i32_w]; rw [c17b0]) | skip)
      have H' := Aside0.mk H
      clear H
      have hnb18 := NB302_299.out
      have hnc18 := NB299_302.out
      have hcz19_0 : w14.cell? ⟨gb302, 0, none⟩ = some (.int .i64 0) := (blk_cell BK302.out 0).trans rfl
      have hcz19_1 : w14.cell? ⟨gb302, 1, none⟩ = some (.int .i64 0) := (blk_cell BK302.out 1).trans rfl
      have hcz19_2 : w14.cell? ⟨gb302, 2, none⟩ = some (.int .i64 0) := (blk_cell BK302.out 2).trans rfl
      have hcz19_3 : w14.cell? ⟨gb302, 3, none⟩ = some (.slice none 0 0) := (blk_cell BK302.out 3).trans rfl
      have hfz19_0 := blk_frozen BK302.out 0
      have hfz19_1 := blk_frozen BK302.out 1
      have hfz19_2 := blk_frozen BK302.out 2
      have hfz19_3 := blk_frozen BK302.out 3
      go_wp2
      go_meet
      case rel => exact ⟨_, ((((rd_T33 l2_0 a3).f1) == ((rd_T33 l2_0 a3).f2))), (by first | rfl | (simp; done) | (simp [*]; done)), H', ⟨by first | omega | exact Nat.le_refl _⟩, ⟨by (with_reducible repeat (first | refine blk_drewN ?_ _ | refine blk_drew ?_ | refine blk_alloc ?_ _)); refine blk_far ?_ NB299_302.out _; refine blk_far ?_ NB299_302.out _; refine blk_far ?_ NB299_302.out _; refine blk_far ?_ NB299_302.out _; (with_reducible repeat (first | refine blk_drewN ?_ _ | refine blk_drew ?_ | refine blk_alloc ?_ _)); exact BK299.out⟩, ⟨by (with_reducible repeat (first | refine blk_drewN ?_ _ | refine blk_drew ?_ | refine blk_alloc ?_ _)); refine blk_put (cs := #[.int .i64 ((rd_T33 l2_0 a3).f0), .int .i64 ((rd_T33 l2_0 a3).f1), .int .i64 ((rd_T33 l2_0 a3).f2), .slice none 0 0]) ?_ 3 _ rfl; refine blk_put (cs := #[.int .i64 ((rd_T33 l2_0 a3).f0), .int .i64 ((rd_T33 l2_0 a3).f1), .int .i64 0, .slice none 0 0]) ?_ 2 _ rfl; refine blk_put (cs := #[.int .i64 ((rd_T33 l2_0 a3).f0), .int .i64 0, .int .i64 0, .slice none 0 0]) ?_ 1 _ rfl; refine blk_put (cs := #[.int .i64 0, .int .i64 0, .int .i64 0, .slice none 0 0]) ?_ 0 _ rfl; (with_reducible repeat (first | refine blk_drewN ?_ _ | refine blk_drew ?_ | refine blk_alloc ?_ _)); exact BK302.out⟩, ⟨by repeat (first | (with_reducible first | exact HB.out | apply below_alloc | apply pw_below_drewN | apply below_drew1 | refine below_set ?_ GE299.out | refine below_set ?_ GE302.out) | exact HB.out)⟩⟩
     ·rw [if_neg c17] at H
      have c17b0 : (((rd_T33 l2_0 a3).f0) == 2) = false := beq_eq_false_iff_ne.mpr c17
      have c17b1 : (((rd_T33 l2_0 a3).f0) != 2) = true := bne_iff_ne.mpr c17
      (first | rw [c17b0] | (simp only [i64_w, i32_w]; rw [c17b0]) | skip)
      by_cases c20 : ((rd_T33 l2_0 a3).f0) = 3
      ·rw [if_pos c20] at H
       have c20b0 : (((rd_T33 l2_0 a3).f0) == 3) = true := beq_iff_eq.mpr c20
       have c20b1 : (((rd_T33 l2_0 a3).f0) != 3) = false := bne_eq_false_iff_eq.mpr c20
       clear c20
       have H' := Aside0.mk H
       clear H
       have hnb21 := NB302_299.out
       have hnc21 := NB299_302.out
       have hcz22_0 : w14.cell? ⟨gb302, 0, none⟩ = some (.int .i64 0) := (blk_cell BK302.out 0).trans rfl
       have hcz22_1 : w14.cell? ⟨gb302, 1, none⟩ = some (.int .i64 0) := (blk_cell BK302.out 1).trans rfl
       have hcz22_2 : w14.cell? ⟨gb302, 2, none⟩ = some (.int .i64 0) := (blk_cell BK302.out 2).trans rfl
       have hcz22_3 : w14.cell? ⟨gb302, 3, none⟩ = some (.slice none 0 0) := (blk_cell BK302.out 3).trans rfl
       have hfz22_0 := blk_frozen BK302.out 0
       have hfz22_1 := blk_frozen BK302.out 1
       have hfz22_2 := blk_frozen BK302.out 2
       have hfz22_3 := blk_frozen BK302.out 3
       go_wp2
       go_meet
       case rel => exact ⟨_, ((((rd_T33 l2_0 a3).f1) == ((rd_T33 l2_0 a3).f2))), (by first | rfl | (simp; done) | (simp [*]; done)), H', ⟨by first | omega | exact Nat.le_refl _⟩, ⟨by (with_reducible repeat (first | refine blk_drewN ?_ _ | refine blk_drew ?_ | refine blk_alloc ?_ _)); refine blk_far ?_ NB299_302.out _; refine blk_far ?_ NB299_302.out _; refine blk_far ?_ NB299_302.out _; refine blk_far ?_ NB299_302.out _; (with_reducible repeat (first | refine blk_drewN ?_ _ | refine blk_drew ?_ | refine blk_alloc ?_ _)); exact BK299.out⟩, ⟨by (with_reducible repeat (first | refine blk_drewN ?_ _ | refine blk_drew ?_ | refine blk_alloc ?_ _)); refine blk_put (cs := #[.int .i64 ((rd_T33 l2_0 a3).f0), .int .i64 ((rd_T33 l2_0 a3).f1), .int .i64 ((rd_T33 l2_0 a3).f2), .slice none 0 0]) ?_ 3 _ rfl; refine blk_put (cs := #[.int .i64 ((rd_T33 l2_0 a3).f0), .int .i64 ((rd_T33 l2_0 a3).f1), .int .i64 0, .slice none 0 0]) ?_ 2 _ rfl; refine blk_put (cs := #[.int .i64 ((rd_T33 l2_0 a3).f0), .int .i64 0, .int .i64 0, .slice none 0 0]) ?_ 1 _ rfl; refine blk_put (cs := #[.int .i64 0, .int .i64 0, .int .i64 0, .slice none 0 0]) ?_ 0 _ rfl; (with_reducible repeat (first | refine blk_drewN ?_ _ | refine blk_drew ?_ | refine blk_alloc ?_ _)); exact BK302.out⟩, ⟨by repeat (first | (with_reducible first | exact HB.out | apply below_alloc | apply pw_below_drewN | apply below_drew1 | refine below_set ?_ GE299.out | refine below_set ?_ GE302.out) | exact HB.out)⟩⟩
      ·rw [if_neg c20] at H
       have c20b0 : (((rd_T33 l2_0 a3).f0) == 3) = false := beq_eq_false_iff_ne.mpr c20
       have c20b1 : (((rd_T33 l2_0 a3).f0) != 3) = true := bne_iff_ne.mpr c20
       have H' := Aside0.mk H
       clear H
       have hnb23 := NB302_299.out
       have hnc23 := NB299_302.out
       have hcz24_0 : w14.cell? ⟨gb302, 0, none⟩ = some (.int .i64 0) := (blk_cell BK302.out 0).trans rfl
       have hcz24_1 : w14.cell? ⟨gb302, 1, none⟩ = some (.int .i64 0) := (blk_cell BK302.out 1).trans rfl
       have hcz24_2 : w14.cell? ⟨gb302, 2, none⟩ = some (.int .i64 0) := (blk_cell BK302.out 2).trans rfl
       have hcz24_3 : w14.cell? ⟨gb302, 3, none⟩ = some (.slice none 0 0) := (blk_cell BK302.out 3).trans rfl
       have hfz24_0 := blk_frozen BK302.out 0
       have hfz24_1 := blk_frozen BK302.out 1
       have hfz24_2 := blk_frozen BK302.out 2
       have hfz24_3 := blk_frozen BK302.out 3
       go_wp2
       go_meet
       case rel => exact ⟨_, (true), (by first | rfl | (simp; done) | (simp [*]; done)), H', ⟨by first | omega | exact Nat.le_refl _⟩, ⟨by (with_reducible repeat (first | refine blk_drewN ?_ _ | refine blk_drew ?_ | refine blk_alloc ?_ _)); refine blk_far ?_ NB299_302.out _; refine blk_far ?_ NB299_302.out _; refine blk_far ?_ NB299_302.out _; refine blk_far ?_ NB299_302.out _; (with_reducible repeat (first | refine blk_drewN ?_ _ | refine blk_drew ?_ | refine blk_alloc ?_ _)); exact BK299.out⟩, ⟨by (with_reducible repeat (first | refine blk_drewN ?_ _ | refine blk_drew ?_ | refine blk_alloc ?_ _)); refine blk_put (cs := #[.int .i64 ((rd_T33 l2_0 a3).f0), .int .i64 ((rd_T33 l2_0 a3).f1), .int .i64 ((rd_T33 l2_0 a3).f2), .slice none 0 0]) ?_ 3 _ rfl; refine blk_put (cs := #[.int .i64 ((rd_T33 l2_0 a3).f0), .int .i64 ((rd_T33 l2_0 a3).f1), .int .i64 0, .slice none 0 0]) ?_ 2 _ rfl; refine blk_put (cs := #[.int .i64 ((rd_T33 l2_0 a3).f0), .int .i64 0, .int .i64 0, .slice none 0 0]) ?_ 1 _ rfl; refine blk_put (cs := #[.int .i64 0, .int .i64 0, .int .i64 0, .slice none 0 0]) ?_ 0 _ rfl; (with_reducible repeat (first | refine blk_drewN ?_ _ | refine blk_drew ?_ | refine blk_alloc ?_ _)); exact BK302.out⟩, ⟨by repeat (first | (with_reducible first | exact HB.out | apply below_alloc | apply pw_below_drewN | apply below_drew1 | refine below_set ?_ GE299.out | refine below_set ?_ GE302.out) | exact HB.out)⟩⟩
    case rest =>
     clear HC9
     try clear c1
     try clear c2
     try clear p2
     try clear c3
     try clear p3
     try clear q3
     try clear hx3
     try clear c4
     try clear c6
     try clear c7
     try clear c7b0
     try clear c8
     try clear c8b0
     try clear c15
     try clear c17
     try clear c17b0
     try clear c17b1
     try clear c18
     try clear c20
     try clear c20b0
     try clear c20b1
     try clear c21
     try clear c23
     try clear hcz11_0
     try clear hcz13_0
     try clear hcz16_0
     try clear hcz16_1
     try clear hcz16_2
     try clear hcz16_3
     try clear hcz19_0
     try clear hcz19_1
     try clear hcz19_2
     try clear hcz19_3
     try clear hcz22_0
     try clear hcz22_1
     try clear hcz22_2
     try clear hcz22_3
     try clear hcz24_0
     try clear hcz24_1
     try clear hcz24_2
     try clear hcz24_3
     try clear hfz11_0
     try clear hfz13_0
     try clear hfz16_0
     try clear hfz16_1
     try clear hfz16_2
     try clear hfz16_3
     try clear hfz19_0
     try clear hfz19_1
     try clear hfz19_2
     try clear hfz19_3
     try clear hfz22_0
     try clear hfz22_1
     try clear hfz22_2
     try clear hfz22_3
     try clear hfz24_0
     try clear hfz24_1
     try clear hfz24_2
     try clear hfz24_3
     try clear hx301_0
     try clear hx301_1
     try clear hx301_2
     try clear hx301_3
     try clear p301
     try clear q301
     obtain ⟨kq, x34_8, rfl, HA, HJ8, BK299, BK302, HB⟩ := hcut
     cases kq with
     | zero => exact absurd HA.out (by simp [cavilref15_Word.j0])
     | succ kj8 =>
      have H := HA.out
      clear HA
      simp only [cavilref15_Word.j0] at H
      by_cases c25 : x34_8 = true
      ·subst c25
       have H1 : (some (⟨#[]⟩ : ByteArray)) = some r := by rw [if_pos rfl] at H; exact H
       clear H
       have H := H1
       clear H1
       obtain rfl := Option.some.inj H
       go_wp2
       go_ret
       exact ⟨by first | rfl | (simp [*, errW_none, errW_some, erT_no, erV_no, erT_at, erV_at] <;> rfl), by repeat (first | (with_reducible first | exact HB.out | apply below_alloc | apply pw_below_drewN | apply below_drew1 | refine below_set ?_ GE299.out | refine below_set ?_ GE302.out) | exact HB.out)⟩
      ·replace c25 := Bool.eq_false_iff.mpr c25
       subst c25
       have H1 : (if 0 ≤ ((rd_T33 l2_0 a3).f1) then (if ((rd_T33 l2_0 a3).f1) < (l1.length : Int) then (if ((rd_T103 l1 ((rd_T33 l2_0 a3).f1)).f1) < 0 then (some (⟨#[]⟩ : ByteArray)) else (if ((rd_T103 l1 ((rd_T33 l2_0 a3).f1)).f1) > ((rd_T103 l1 ((rd_T33 l2_0 a3).f1)).f2) then (some (⟨#[]⟩ : ByteArray)) else (if ((rd_T103 l1 ((rd_T33 l2_0 a3).f1)).f2) > (l0.length : Int) then (some (⟨#[]⟩ : ByteArray)) else (if 0 ≤ ((rd_T103 l1 ((rd_T33 l2_0 a3).f1)).f1) then (if ((rd_T103 l1 ((rd_T33 l2_0 a3).f1)).f1) ≤ ((rd_T103 l1 ((rd_T33 l2_0 a3).f1)).f2) then (if ((rd_T103 l1 ((rd_T33 l2_0 a3).f1)).f2) ≤ (l0.length : Int) then (some (strOfNums ((l0.take (((rd_T103 l1 ((rd_T33 l2_0 a3).f1)).f2) : Int).toNat).drop (((rd_T103 l1 ((rd_T33 l2_0 a3).f1)).f1) : Int).toNat))) else (none)) else (none)) else (none))))) else (none)) else (none)) = some r := by rw [if_neg (show ¬ (false = true) by decide)] at H; exact H
       clear H
       have H := H1
       clear H1
       by_cases c26 : 0 ≤ ((rd_T33 l2_0 a3).f1)
       ·rw [if_pos c26] at H
        have c26b0 : decide (0 ≤ ((rd_T33 l2_0 a3).f1)) = true := decide_eq_true c26
        clear c26
        by_cases c27 : ((rd_T33 l2_0 a3).f1) < (l1.length : Int)
        ·rw [if_pos c27] at H
         have c27b0 : decide (((rd_T33 l2_0 a3).f1) < (l1.length : Int)) = true := decide_eq_true c27
         clear c27
         by_cases c28 : ((rd_T103 l1 ((rd_T33 l2_0 a3).f1)).f1) < 0
         ·rw [if_pos c28] at H
          have c28b0 : decide (((rd_T103 l1 ((rd_T33 l2_0 a3).f1)).f1) < 0) = true := decide_eq_true c28
          clear c28
          obtain rfl := Option.some.inj H
          have hnb29 := NB302_299.out
          have hnc29 := NB299_302.out
          have hcz30_0 : wc.cell? ⟨gb302, 0, none⟩ = some (.int .i64 ((rd_T33 l2_0 a3).f0)) := (blk_cell BK302.out 0).trans rfl
          have hcz30_1 : wc.cell? ⟨gb302, 1, none⟩ = some (.int .i64 ((rd_T33 l2_0 a3).f1)) := (blk_cell BK302.out 1).trans rfl
          have hcz30_2 : wc.cell? ⟨gb302, 2, none⟩ = some (.int .i64 ((rd_T33 l2_0 a3).f2)) := (blk_cell BK302.out 2).trans rfl
          have hcz30_3 : wc.cell? ⟨gb302, 3, none⟩ = some (.slice A301_3 ((rd_T33 l2_0 a3).f3).length c301_3) := (blk_cell BK302.out 3).trans rfl
          have hfz30_0 := blk_frozen BK302.out 0
          have hfz30_1 := blk_frozen BK302.out 1
          have hfz30_2 := blk_frozen BK302.out 2
          have hfz30_3 := blk_frozen BK302.out 3
          have p303 : 0 ≤ (((rd_T33 l2_0 a3).f1) : Int) := of_dec
          have q303 : ((rd_T33 l2_0 a3).f1) < (l1.length : Int) := of_dec
          obtain ⟨ad303, e303, hx303_0, hx303_1, hx303_2, hx303_3, hx303_4⟩ := at_T103 HR1.out ((rd_T33 l2_0 a3).f1) p303 q303
          cases e303
          replace hx303_0 := cell_b HB.out hx303_0
          replace hx303_1 := cell_b HB.out hx303_1
          replace hx303_2 := cell_b HB.out hx303_2
          replace hx303_3 := cell_b HB.out hx303_3
          replace hx303_4 := cell_b HB.out hx303_4
          replace p303 := eq_true p303
          replace q303 := eq_true q303
          go_wp2_with (first | ((with_reducible refine gate_dst (N := 10) rfl ?_); (try (refine gate_guard (by rfl) ?_; dsimp only)); refine box_event ?hg (N := 10) ?hd (cs := #[.int .i64 0, .int .i64 0, .int .i64 0, .bool false, .int .i64 0]) (t := 103) ?hr ?_; (case hd => rfl); (case hg => rfl); (case hr => first | (go_simp; done) | (go_simp; rfl)); intro gb304 hg w31 hbox hb; have n0_ := Aside0.mk (blk_below (g := gb299) (o := .cells #[.slice (some ad301) l2_0.length c2_0] 24 (0, 0)) (go_k BK299.out) hb); have n1_ := Aside0.mk (blk_below (g := gb302) (o := .cells #[.int .i64 ((rd_T33 l2_0 a3).f0), .int .i64 ((rd_T33 l2_0 a3).f1), .int .i64 ((rd_T33 l2_0 a3).f2), .slice A301_3 ((rd_T33 l2_0 a3).f3).length c301_3] 33 (0, 0)) (go_k BK302.out) hb); have n2_ := Aside0.mk (below_step (go_b2 HB.out GE299.out GE302.out) hb); have n3_ := Aside0.mk (hbox); have n4_ := Aside0.mk ((by rw [hg]; exact (below_size (go_b2 HB.out GE299.out GE302.out)) : w.heap.size ≤ gb304)); have n5_ := n4_; have n6_ := Aside0.mk ((by rw [hg]; exact Nat.ne_of_lt (blk_lt (g := gb299) (o := .cells #[.slice (some ad301) l2_0.length c2_0] 24 (0, 0)) (go_k BK299.out)) : gb299 ≠ gb304)); have n7_ := Aside0.mk ((by rw [hg]; exact Nat.ne_of_gt (blk_lt (g := gb299) (o := .cells #[.slice (some ad301) l2_0.length c2_0] 24 (0, 0)) (go_k BK299.out)) : gb304 ≠ gb299)); have n8_ := Aside0.mk ((by rw [hg]; exact Nat.ne_of_lt (blk_lt (g := gb302) (o := .cells #[.int .i64 ((rd_T33 l2_0 a3).f0), .int .i64 ((rd_T33 l2_0 a3).f1), .int .i64 ((rd_T33 l2_0 a3).f2), .slice A301_3 ((rd_T33 l2_0 a3).f3).length c301_3] 33 (0, 0)) (go_k BK302.out)) : gb302 ≠ gb304)); have n9_ := Aside0.mk ((by rw [hg]; exact Nat.ne_of_gt (blk_lt (g := gb302) (o := .cells #[.int .i64 ((rd_T33 l2_0 a3).f0), .int .i64 ((rd_T33 l2_0 a3).f1), .int .i64 ((rd_T33 l2_0 a3).f2), .slice A301_3 ((rd_T33 l2_0 a3).f3).length c301_3] 33 (0, 0)) (go_k BK302.out)) : gb304 ≠ gb302)); clear BK299; clear BK302; clear HB; have BK299 := n0_; have BK302 := n1_; have HB := n2_; have BK304 := n3_; have GW304 := n4_; have GE304 := n5_; have NB299_304 := n6_; have NB304_299 := n7_; have NB302_304 := n8_; have NB304_302 := n9_; clear n0_ n1_ n2_ n3_ n4_ n5_ n6_ n7_ n8_ n9_; clear hb hbox hg; have hnb32 := NB304_299.out; have hnc32 := NB299_304.out; have hnb33 := NB304_302.out; have hnc33 := NB302_304.out; have hcz34_0 : w31.cell? ⟨gb304, 0, none⟩ = some (.int .i64 0) := (blk_cell BK304.out 0).trans rfl; have hcz34_1 : w31.cell? ⟨gb304, 1, none⟩ = some (.int .i64 0) := (blk_cell BK304.out 1).trans rfl; have hcz34_2 : w31.cell? ⟨gb304, 2, none⟩ = some (.int .i64 0) := (blk_cell BK304.out 2).trans rfl; have hcz34_3 : w31.cell? ⟨gb304, 3, none⟩ = some (.bool false) := (blk_cell BK304.out 3).trans rfl; have hcz34_4 : w31.cell? ⟨gb304, 4, none⟩ = some (.int .i64 0) := (blk_cell BK304.out 4).trans rfl; have hfz34_0 := blk_frozen BK304.out 0; have hfz34_1 := blk_frozen BK304.out 1; have hfz34_2 := blk_frozen BK304.out 2; have hfz34_3 := blk_frozen BK304.out 3; have hfz34_4 := blk_frozen BK304.out 4))
          go_ret
          exact ⟨by first | rfl | (simp [*, errW_none, errW_some, erT_no, erV_no, erT_at, erV_at] <;> rfl), by repeat (first | (with_reducible first | exact HB.out | apply below_alloc | apply pw_below_drewN | apply below_drew1 | refine below_set ?_ GE299.out | refine below_set ?_ GE302.out | refine below_set ?_ GE304.out) | exact HB.out)⟩
         ·rw [if_neg c28] at H
          have c28b0 : decide (((rd_T103 l1 ((rd_T33 l2_0 a3).f1)).f1) < 0) = false := decide_eq_false c28
          clear c28
          by_cases c35 : ((rd_T103 l1 ((rd_T33 l2_0 a3).f1)).f1) > ((rd_T103 l1 ((rd_T33 l2_0 a3).f1)).f2)
          ·rw [if_pos c35] at H
           have c35b0 : decide (((rd_T103 l1 ((rd_T33 l2_0 a3).f1)).f2) < ((rd_T103 l1 ((rd_T33 l2_0 a3).f1)).f1)) = true := decide_eq_true c35
           clear c35
           obtain rfl := Option.some.inj H
           have hnb36 := NB302_299.out
           have hnc36 := NB299_302.out
           have hcz37_0 : wc.cell? ⟨gb302, 0, none⟩ = some (.int .i64 ((rd_T33 l2_0 a3).f0)) := (blk_cell BK302.out 0).trans rfl
           have hcz37_1 : wc.cell? ⟨gb302, 1, none⟩ = some (.int .i64 ((rd_T33 l2_0 a3).f1)) := (blk_cell BK302.out 1).trans rfl
           have hcz37_2 : wc.cell? ⟨gb302, 2, none⟩ = some (.int .i64 ((rd_T33 l2_0 a3).f2)) := (blk_cell BK302.out 2).trans rfl
           have hcz37_3 : wc.cell? ⟨gb302, 3, none⟩ = some (.slice A301_3 ((rd_T33 l2_0 a3).f3).length c301_3) := (blk_cell BK302.out 3).trans rfl
           have hfz37_0 := blk_frozen BK302.out 0
           have hfz37_1 := blk_frozen BK302.out 1
           have hfz37_2 := blk_frozen BK302.out 2
           have hfz37_3 := blk_frozen BK302.out 3
           have p303 : 0 ≤ (((rd_T33 l2_0 a3).f1) : Int) := of_dec
           have q303 : ((rd_T33 l2_0 a3).f1) < (l1.length : Int) := of_dec
           obtain ⟨ad303, e303, hx303_0, hx303_1, hx303_2, hx303_3, hx303_4⟩ := at_T103 HR1.out ((rd_T33 l2_0 a3).f1) p303 q303
           cases e303
           replace hx303_0 := cell_b HB.out hx303_0
           replace hx303_1 := cell_b HB.out hx303_1
           replace hx303_2 := cell_b HB.out hx303_2
           replace hx303_3 := cell_b HB.out hx303_3
           replace hx303_4 := cell_b HB.out hx303_4
           replace p303 := eq_true p303
           replace q303 := eq_true q303
           go_wp2_with (first | ((with_reducible refine gate_dst (N := 10) rfl ?_); (try (refine gate_guard (by rfl) ?_; dsimp only)); refine box_event ?hg (N := 10) ?hd (cs := #[.int .i64 0, .int .i64 0, .int .i64 0, .bool false, .int .i64 0]) (t := 103) ?hr ?_; (case hd => rfl); (case hg => rfl); (case hr => first | (go_simp; done) | (go_simp; rfl)); intro gb304 hg w38 hbox hb; have n0_ := Aside0.mk (blk_below (g := gb299) (o := .cells #[.slice (some ad301) l2_0.length c2_0] 24 (0, 0)) (go_k BK299.out) hb); have n1_ := Aside0.mk (blk_below (g := gb302) (o := .cells #[.int .i64 ((rd_T33 l2_0 a3).f0), .int .i64 ((rd_T33 l2_0 a3).f1), .int .i64 ((rd_T33 l2_0 a3).f2), .slice A301_3 ((rd_T33 l2_0 a3).f3).length c301_3] 33 (0, 0)) (go_k BK302.out) hb); have n2_ := Aside0.mk (below_step (go_b2 HB.out GE299.out GE302.out) hb); have n3_ := Aside0.mk (hbox); have n4_ := Aside0.mk ((by rw [hg]; exact (below_size (go_b2 HB.out GE299.out GE302.out)) : w.heap.size ≤ gb304)); have n5_ := n4_; have n6_ := Aside0.mk ((by rw [hg]; exact Nat.ne_of_lt (blk_lt (g := gb299) (o := .cells #[.slice (some ad301) l2_0.length c2_0] 24 (0, 0)) (go_k BK299.out)) : gb299 ≠ gb304)); have n7_ := Aside0.mk ((by rw [hg]; exact Nat.ne_of_gt (blk_lt (g := gb299) (o := .cells #[.slice (some ad301) l2_0.length c2_0] 24 (0, 0)) (go_k BK299.out)) : gb304 ≠ gb299)); have n8_ := Aside0.mk ((by rw [hg]; exact Nat.ne_of_lt (blk_lt (g := gb302) (o := .cells #[.int .i64 ((rd_T33 l2_0 a3).f0), .int .i64 ((rd_T33 l2_0 a3).f1), .int .i64 ((rd_T33 l2_0 a3).f2), .slice A301_3 ((rd_T33 l2_0 a3).f3).length c301_3] 33 (0, 0)) (go_k BK302.out)) : gb302 ≠ gb304)); have n9_ := Aside0.mk ((by rw [hg]; exact Nat.ne_of_gt (blk_lt (g := gb302) (o := .cells #[.int .i64 ((rd_T33 l2_0 a3).f0), .int .i64 ((rd_T33 l2_0 a3).f1), .int .i64 ((rd_T33 l2_0 a3).f2), .slice A301_3 ((rd_T33 l2_0 a3).f3).length c301_3] 33 (0, 0)) (go_k BK302.out)) : gb304 ≠ gb302)); clear BK299; clear BK302; clear HB; have BK299 := n0_; have BK302 := n1_; have HB := n2_; have BK304 := n3_; have GW304 := n4_; have GE304 := n5_; have NB299_304 := n6_; have NB304_299 := n7_; have NB302_304 := n8_; have NB304_302 := n9_; clear n0_ n1_ n2_ n3_ n4_ n5_ n6_ n7_ n8_ n9_; clear hb hbox hg; have hnb39 := NB304_299.out; have hnc39 := NB299_304.out; have hnb40 := NB304_302.out; have hnc40 := NB302_304.out; have hcz41_0 : w38.cell? ⟨gb304, 0, none⟩ = some (.int .i64 0) := (blk_cell BK304.out 0).trans rfl; have hcz41_1 : w38.cell? ⟨gb304, 1, none⟩ = some (.int .i64 0) := (blk_cell BK304.out 1).trans rfl; have hcz41_2 : w38.cell? ⟨gb304, 2, none⟩ = some (.int .i64 0) := (blk_cell BK304.out 2).trans rfl; have hcz41_3 : w38.cell? ⟨gb304, 3, none⟩ = some (.bool false) := (blk_cell BK304.out 3).trans rfl; have hcz41_4 : w38.cell? ⟨gb304, 4, none⟩ = some (.int .i64 0) := (blk_cell BK304.out 4).trans rfl; have hfz41_0 := blk_frozen BK304.out 0; have hfz41_1 := blk_frozen BK304.out 1; have hfz41_2 := blk_frozen BK304.out 2; have hfz41_3 := blk_frozen BK304.out 3; have hfz41_4 := blk_frozen BK304.out 4))
           go_ret
           exact ⟨by first | rfl | (simp [*, errW_none, errW_some, erT_no, erV_no, erT_at, erV_at] <;> rfl), by repeat (first | (with_reducible first | exact HB.out | apply below_alloc | apply pw_below_drewN | apply below_drew1 | refine below_set ?_ GE299.out | refine below_set ?_ GE302.out | refine below_set ?_ GE304.out) | exact HB.out)⟩
          ·rw [if_neg c35] at H
           have c35b0 : decide (((rd_T103 l1 ((rd_T33 l2_0 a3).f1)).f2) < ((rd_T103 l1 ((rd_T33 l2_0 a3).f1)).f1)) = false := decide_eq_false c35
           clear c35
           by_cases c42 : ((rd_T103 l1 ((rd_T33 l2_0 a3).f1)).f2) > (l0.length : Int)
           ·rw [if_pos c42] at H
            have c42b0 : decide ((l0.length : Int) < ((rd_T103 l1 ((rd_T33 l2_0 a3).f1)).f2)) = true := decide_eq_true c42
            clear c42
            obtain rfl := Option.some.inj H
            have hnb43 := NB302_299.out
            have hnc43 := NB299_302.out
            have hcz44_0 : wc.cell? ⟨gb302, 0, none⟩ = some (.int .i64 ((rd_T33 l2_0 a3).f0)) := (blk_cell BK302.out 0).trans rfl
            have hcz44_1 : wc.cell? ⟨gb302, 1, none⟩ = some (.int .i64 ((rd_T33 l2_0 a3).f1)) := (blk_cell BK302.out 1).trans rfl
            have hcz44_2 : wc.cell? ⟨gb302, 2, none⟩ = some (.int .i64 ((rd_T33 l2_0 a3).f2)) := (blk_cell BK302.out 2).trans rfl
            have hcz44_3 : wc.cell? ⟨gb302, 3, none⟩ = some (.slice A301_3 ((rd_T33 l2_0 a3).f3).length c301_3) := (blk_cell BK302.out 3).trans rfl
            have hfz44_0 := blk_frozen BK302.out 0
            have hfz44_1 := blk_frozen BK302.out 1
            have hfz44_2 := blk_frozen BK302.out 2
            have hfz44_3 := blk_frozen BK302.out 3
            have p303 : 0 ≤ (((rd_T33 l2_0 a3).f1) : Int) := of_dec
            have q303 : ((rd_T33 l2_0 a3).f1) < (l1.length : Int) := of_dec
            obtain ⟨ad303, e303, hx303_0, hx303_1, hx303_2, hx303_3, hx303_4⟩ := at_T103 HR1.out ((rd_T33 l2_0 a3).f1) p303 q303
            cases e303
            replace hx303_0 := cell_b HB.out hx303_0
            replace hx303_1 := cell_b HB.out hx303_1
            replace hx303_2 := cell_b HB.out hx303_2
            replace hx303_3 := cell_b HB.out hx303_3
            replace hx303_4 := cell_b HB.out hx303_4
            replace p303 := eq_true p303
            replace q303 := eq_true q303
            go_wp2_with (first | ((with_reducible refine gate_dst (N := 10) rfl ?_); (try (refine gate_guard (by rfl) ?_; dsimp only)); refine box_event ?hg (N := 10) ?hd (cs := #[.int .i64 0, .int .i64 0, .int .i64 0, .bool false, .int .i64 0]) (t := 103) ?hr ?_; (case hd => rfl); (case hg => rfl); (case hr => first | (go_simp; done) | (go_simp; rfl)); intro gb304 hg w45 hbox hb; have n0_ := Aside0.mk (blk_below (g := gb299) (o := .cells #[.slice (some ad301) l2_0.length c2_0] 24 (0, 0)) (go_k BK299.out) hb); have n1_ := Aside0.mk (blk_below (g := gb302) (o := .cells #[.int .i64 ((rd_T33 l2_0 a3).f0), .int .i64 ((rd_T33 l2_0 a3).f1), .int .i64 ((rd_T33 l2_0 a3).f2), .slice A301_3 ((rd_T33 l2_0 a3).f3).length c301_3] 33 (0, 0)) (go_k BK302.out) hb); have n2_ := Aside0.mk (below_step (go_b2 HB.out GE299.out GE302.out) hb); have n3_ := Aside0.mk (hbox); have n4_ := Aside0.mk ((by rw [hg]; exact (below_size (go_b2 HB.out GE299.out GE302.out)) : w.heap.size ≤ gb304)); have n5_ := n4_; have n6_ := Aside0.mk ((by rw [hg]; exact Nat.ne_of_lt (blk_lt (g := gb299) (o := .cells #[.slice (some ad301) l2_0.length c2_0] 24 (0, 0)) (go_k BK299.out)) : gb299 ≠ gb304)); have n7_ := Aside0.mk ((by rw [hg]; exact Nat.ne_of_gt (blk_lt (g := gb299) (o := .cells #[.slice (some ad301) l2_0.length c2_0] 24 (0, 0)) (go_k BK299.out)) : gb304 ≠ gb299)); have n8_ := Aside0.mk ((by rw [hg]; exact Nat.ne_of_lt (blk_lt (g := gb302) (o := .cells #[.int .i64 ((rd_T33 l2_0 a3).f0), .int .i64 ((rd_T33 l2_0 a3).f1), .int .i64 ((rd_T33 l2_0 a3).f2), .slice A301_3 ((rd_T33 l2_0 a3).f3).length c301_3] 33 (0, 0)) (go_k BK302.out)) : gb302 ≠ gb304)); have n9_ := Aside0.mk ((by rw [hg]; exact Nat.ne_of_gt (blk_lt (g := gb302) (o := .cells #[.int .i64 ((rd_T33 l2_0 a3).f0), .int .i64 ((rd_T33 l2_0 a3).f1), .int .i64 ((rd_T33 l2_0 a3).f2), .slice A301_3 ((rd_T33 l2_0 a3).f3).length c301_3] 33 (0, 0)) (go_k BK302.out)) : gb304 ≠ gb302)); clear BK299; clear BK302; clear HB; have BK299 := n0_; have BK302 := n1_; have HB := n2_; have BK304 := n3_; have GW304 := n4_; have GE304 := n5_; have NB299_304 := n6_; have NB304_299 := n7_; have NB302_304 := n8_; have NB304_302 := n9_; clear n0_ n1_ n2_ n3_ n4_ n5_ n6_ n7_ n8_ n9_; clear hb hbox hg; have hnb46 := NB304_299.out; have hnc46 := NB299_304.out; have hnb47 := NB304_302.out; have hnc47 := NB302_304.out; have hcz48_0 : w45.cell? ⟨gb304, 0, none⟩ = some (.int .i64 0) := (blk_cell BK304.out 0).trans rfl; have hcz48_1 : w45.cell? ⟨gb304, 1, none⟩ = some (.int .i64 0) := (blk_cell BK304.out 1).trans rfl; have hcz48_2 : w45.cell? ⟨gb304, 2, none⟩ = some (.int .i64 0) := (blk_cell BK304.out 2).trans rfl; have hcz48_3 : w45.cell? ⟨gb304, 3, none⟩ = some (.bool false) := (blk_cell BK304.out 3).trans rfl; have hcz48_4 : w45.cell? ⟨gb304, 4, none⟩ = some (.int .i64 0) := (blk_cell BK304.out 4).trans rfl; have hfz48_0 := blk_frozen BK304.out 0; have hfz48_1 := blk_frozen BK304.out 1; have hfz48_2 := blk_frozen BK304.out 2; have hfz48_3 := blk_frozen BK304.out 3; have hfz48_4 := blk_frozen BK304.out 4))
            go_ret
            exact ⟨by first | rfl | (simp [*, errW_none, errW_some, erT_no, erV_no, erT_at, erV_at] <;> rfl), by repeat (first | (with_reducible first | exact HB.out | apply below_alloc | apply pw_below_drewN | apply below_drew1 | refine below_set ?_ GE299.out | refine below_set ?_ GE302.out | refine below_set ?_ GE304.out) | exact HB.out)⟩
           ·rw [if_neg c42] at H
            have c42b0 : decide ((l0.length : Int) < ((rd_T103 l1 ((rd_T33 l2_0 a3).f1)).f2)) = false := decide_eq_false c42
            clear c42
            by_cases c49 : 0 ≤ ((rd_T103 l1 ((rd_T33 l2_0 a3).f1)).f1)
            ·rw [if_pos c49] at H
             have c49b0 := eq_true c49
             have c49b1 : decide (0 ≤ ((rd_T103 l1 ((rd_T33 l2_0 a3).f1)).f1)) = true := decide_eq_true c49
             clear c49
             by_cases c50 : ((rd_T103 l1 ((rd_T33 l2_0 a3).f1)).f1) ≤ ((rd_T103 l1 ((rd_T33 l2_0 a3).f1)).f2)
             ·rw [if_pos c50] at H
              have c50b0 := eq_true c50
              have c50b1 : decide (((rd_T103 l1 ((rd_T33 l2_0 a3).f1)).f1) ≤ ((rd_T103 l1 ((rd_T33 l2_0 a3).f1)).f2)) = true := decide_eq_true c50
              clear c50
              by_cases c51 : ((rd_T103 l1 ((rd_T33 l2_0 a3).f1)).f2) ≤ (l0.length : Int)
              ·rw [if_pos c51] at H
               have c51b0 := eq_true c51
               have c51b1 : decide (((rd_T103 l1 ((rd_T33 l2_0 a3).f1)).f2) ≤ (l0.length : Int)) = true := decide_eq_true c51
               clear c51
               obtain ⟨y305, hy305⟩ : ∃ y_ : List Int, y_ = ((l0.take (((rd_T103 l1 ((rd_T33 l2_0 a3).f1)).f2) : Int).toNat).drop (((rd_T103 l1 ((rd_T33 l2_0 a3).f1)).f1) : Int).toNat) := ⟨_, rfl⟩
               replace H : (some (strOfNums y305)) = some r := by first | (rw [hy305]; with_reducible exact H) | (have H2_ := (Option.bind_some _ _).symm.trans H; rw [hy305]; with_reducible exact H2_) | (have H2_ := (Option.bind_some _ _).symm.trans H; with_reducible exact H2_) | with_reducible exact H | (rw [hy305]; exact H) | exact H
               have Ny305 := Aside0.mk hy305
               clear hy305
               obtain rfl := Option.some.inj H
               have hnb52 := NB302_299.out
               have hnc52 := NB299_302.out
               have hcz53_0 : wc.cell? ⟨gb302, 0, none⟩ = some (.int .i64 ((rd_T33 l2_0 a3).f0)) := (blk_cell BK302.out 0).trans rfl
               have hcz53_1 : wc.cell? ⟨gb302, 1, none⟩ = some (.int .i64 ((rd_T33 l2_0 a3).f1)) := (blk_cell BK302.out 1).trans rfl
               have hcz53_2 : wc.cell? ⟨gb302, 2, none⟩ = some (.int .i64 ((rd_T33 l2_0 a3).f2)) := (blk_cell BK302.out 2).trans rfl
               have hcz53_3 : wc.cell? ⟨gb302, 3, none⟩ = some (.slice A301_3 ((rd_T33 l2_0 a3).f3).length c301_3) := (blk_cell BK302.out 3).trans rfl
               have hfz53_0 := blk_frozen BK302.out 0
               have hfz53_1 := blk_frozen BK302.out 1
               have hfz53_2 := blk_frozen BK302.out 2
               have hfz53_3 := blk_frozen BK302.out 3
               have p303 : 0 ≤ (((rd_T33 l2_0 a3).f1) : Int) := of_dec
               have q303 : ((rd_T33 l2_0 a3).f1) < (l1.length : Int) := of_dec
               obtain ⟨ad303, e303, hx303_0, hx303_1, hx303_2, hx303_3, hx303_4⟩ := at_T103 HR1.out ((rd_T33 l2_0 a3).f1) p303 q303
               cases e303
               replace hx303_0 := cell_b HB.out hx303_0
               replace hx303_1 := cell_b HB.out hx303_1
               replace hx303_2 := cell_b HB.out hx303_2
               replace hx303_3 := cell_b HB.out hx303_3
               replace hx303_4 := cell_b HB.out hx303_4
               replace p303 := eq_true p303
               replace q303 := eq_true q303
               go_wp2_with (first | ((with_reducible refine gate_dst (N := 10) rfl ?_); (try (refine gate_guard (by rfl) ?_; dsimp only)); refine box_event ?hg (N := 10) ?hd (cs := #[.int .i64 0, .int .i64 0, .int .i64 0, .bool false, .int .i64 0]) (t := 103) ?hr ?_; (case hd => rfl); (case hg => rfl); (case hr => first | (go_simp; done) | (go_simp; rfl)); intro gb304 hg w54 hbox hb; have n0_ := Aside0.mk (blk_below (g := gb299) (o := .cells #[.slice (some ad301) l2_0.length c2_0] 24 (0, 0)) (go_k BK299.out) hb); have n1_ := Aside0.mk (blk_below (g := gb302) (o := .cells #[.int .i64 ((rd_T33 l2_0 a3).f0), .int .i64 ((rd_T33 l2_0 a3).f1), .int .i64 ((rd_T33 l2_0 a3).f2), .slice A301_3 ((rd_T33 l2_0 a3).f3).length c301_3] 33 (0, 0)) (go_k BK302.out) hb); have n2_ := Aside0.mk (below_step (go_b2 HB.out GE299.out GE302.out) hb); have n3_ := Aside0.mk (hbox); have n4_ := Aside0.mk ((by rw [hg]; exact (below_size (go_b2 HB.out GE299.out GE302.out)) : w.heap.size ≤ gb304)); have n5_ := n4_; have n6_ := Aside0.mk ((by rw [hg]; exact Nat.ne_of_lt (blk_lt (g := gb299) (o := .cells #[.slice (some ad301) l2_0.length c2_0] 24 (0, 0)) (go_k BK299.out)) : gb299 ≠ gb304)); have n7_ := Aside0.mk ((by rw [hg]; exact Nat.ne_of_gt (blk_lt (g := gb299) (o := .cells #[.slice (some ad301) l2_0.length c2_0] 24 (0, 0)) (go_k BK299.out)) : gb304 ≠ gb299)); have n8_ := Aside0.mk ((by rw [hg]; exact Nat.ne_of_lt (blk_lt (g := gb302) (o := .cells #[.int .i64 ((rd_T33 l2_0 a3).f0), .int .i64 ((rd_T33 l2_0 a3).f1), .int .i64 ((rd_T33 l2_0 a3).f2), .slice A301_3 ((rd_T33 l2_0 a3).f3).length c301_3] 33 (0, 0)) (go_k BK302.out)) : gb302 ≠ gb304)); have n9_ := Aside0.mk ((by rw [hg]; exact Nat.ne_of_gt (blk_lt (g := gb302) (o := .cells #[.int .i64 ((rd_T33 l2_0 a3).f0), .int .i64 ((rd_T33 l2_0 a3).f1), .int .i64 ((rd_T33 l2_0 a3).f2), .slice A301_3 ((rd_T33 l2_0 a3).f3).length c301_3] 33 (0, 0)) (go_k BK302.out)) : gb304 ≠ gb302)); clear BK299; clear BK302; clear HB; have BK299 := n0_; have BK302 := n1_; have HB := n2_; have BK304 := n3_; have GW304 := n4_; have GE304 := n5_; have NB299_304 := n6_; have NB304_299 := n7_; have NB302_304 := n8_; have NB304_302 := n9_; clear n0_ n1_ n2_ n3_ n4_ n5_ n6_ n7_ n8_ n9_; clear hb hbox hg; have hnb55 := NB304_299.out; have hnc55 := NB299_304.out; have hnb56 := NB304_302.out; have hnc56 := NB302_304.out; have hcz57_0 : w54.cell? ⟨gb304, 0, none⟩ = some (.int .i64 0) := (blk_cell BK304.out 0).trans rfl; have hcz57_1 : w54.cell? ⟨gb304, 1, none⟩ = some (.int .i64 0) := (blk_cell BK304.out 1).trans rfl; have hcz57_2 : w54.cell? ⟨gb304, 2, none⟩ = some (.int .i64 0) := (blk_cell BK304.out 2).trans rfl; have hcz57_3 : w54.cell? ⟨gb304, 3, none⟩ = some (.bool false) := (blk_cell BK304.out 3).trans rfl; have hcz57_4 : w54.cell? ⟨gb304, 4, none⟩ = some (.int .i64 0) := (blk_cell BK304.out 4).trans rfl; have hfz57_0 := blk_frozen BK304.out 0; have hfz57_1 := blk_frozen BK304.out 1; have hfz57_2 := blk_frozen BK304.out 2; have hfz57_3 := blk_frozen BK304.out 3; have hfz57_4 := blk_frozen BK304.out 4) | ((with_reducible refine gate_store (t := 103) (p := 10) rfl ?_); refine store_event (t := 103) (p := 10) (v := ?vo_w58) (w1 := (((((w54.setCell ⟨gb304, 0, none⟩ (.int .i64 ((rd_T103 l1 ((rd_T33 l2_0 a3).f1)).f0))).setCell ⟨gb304, 1, none⟩ (.int .i64 ((rd_T103 l1 ((rd_T33 l2_0 a3).f1)).f1))).setCell ⟨gb304, 2, none⟩ (.int .i64 ((rd_T103 l1 ((rd_T33 l2_0 a3).f1)).f2))).setCell ⟨gb304, 3, none⟩ (.bool ((rd_T103 l1 ((rd_T33 l2_0 a3).f1)).f3))).setCell ⟨gb304, 4, none⟩ (.int .i64 ((rd_T103 l1 ((rd_T33 l2_0 a3).f1)).f4)))) ?hg ?ho ?hn ?hr ?_; (case ho => rfl); (case hg => rfl); (case hn => rfl); (case hr => first | (go_simp; done) | (go_simp; rfl)); intro w58 hw; have n0_ : Aside0 (w58.heap[gb299]? = some (.cells #[.slice (some ad301) l2_0.length c2_0] 24 (0, 0))) := ⟨(by rw [hw]; exact (by (with_reducible repeat (first | refine blk_drewN ?_ _ | refine blk_drew ?_ | refine blk_alloc ?_ _)); refine blk_far ?_ NB299_304.out _; refine blk_far ?_ NB299_304.out _; refine blk_far ?_ NB299_304.out _; refine blk_far ?_ NB299_304.out _; refine blk_far ?_ NB299_304.out _; (with_reducible repeat (first | refine blk_drewN ?_ _ | refine blk_drew ?_ | refine blk_alloc ?_ _)); exact BK299.out))⟩; have n1_ : Aside0 (w58.heap[gb302]? = some (.cells #[.int .i64 ((rd_T33 l2_0 a3).f0), .int .i64 ((rd_T33 l2_0 a3).f1), .int .i64 ((rd_T33 l2_0 a3).f2), .slice A301_3 ((rd_T33 l2_0 a3).f3).length c301_3] 33 (0, 0))) := ⟨(by rw [hw]; exact (by (with_reducible repeat (first | refine blk_drewN ?_ _ | refine blk_drew ?_ | refine blk_alloc ?_ _)); refine blk_far ?_ NB302_304.out _; refine blk_far ?_ NB302_304.out _; refine blk_far ?_ NB302_304.out _; refine blk_far ?_ NB302_304.out _; refine blk_far ?_ NB302_304.out _; (with_reducible repeat (first | refine blk_drewN ?_ _ | refine blk_drew ?_ | refine blk_alloc ?_ _)); exact BK302.out))⟩; have n2_ : Aside0 (w58.heap[gb304]? = some (.cells #[.int .i64 ((rd_T103 l1 ((rd_T33 l2_0 a3).f1)).f0), .int .i64 ((rd_T103 l1 ((rd_T33 l2_0 a3).f1)).f1), .int .i64 ((rd_T103 l1 ((rd_T33 l2_0 a3).f1)).f2), .bool ((rd_T103 l1 ((rd_T33 l2_0 a3).f1)).f3), .int .i64 ((rd_T103 l1 ((rd_T33 l2_0 a3).f1)).f4)] 103 (0, 0))) := ⟨(by rw [hw]; exact (by (with_reducible repeat (first | refine blk_drewN ?_ _ | refine blk_drew ?_ | refine blk_alloc ?_ _)); refine blk_put (cs := #[.int .i64 ((rd_T103 l1 ((rd_T33 l2_0 a3).f1)).f0), .int .i64 ((rd_T103 l1 ((rd_T33 l2_0 a3).f1)).f1), .int .i64 ((rd_T103 l1 ((rd_T33 l2_0 a3).f1)).f2), .bool ((rd_T103 l1 ((rd_T33 l2_0 a3).f1)).f3), .int .i64 0]) ?_ 4 _ rfl; refine blk_put (cs := #[.int .i64 ((rd_T103 l1 ((rd_T33 l2_0 a3).f1)).f0), .int .i64 ((rd_T103 l1 ((rd_T33 l2_0 a3).f1)).f1), .int .i64 ((rd_T103 l1 ((rd_T33 l2_0 a3).f1)).f2), .bool false, .int .i64 0]) ?_ 3 _ rfl; refine blk_put (cs := #[.int .i64 ((rd_T103 l1 ((rd_T33 l2_0 a3).f1)).f0), .int .i64 ((rd_T103 l1 ((rd_T33 l2_0 a3).f1)).f1), .int .i64 0, .bool false, .int .i64 0]) ?_ 2 _ rfl; refine blk_put (cs := #[.int .i64 ((rd_T103 l1 ((rd_T33 l2_0 a3).f1)).f0), .int .i64 0, .int .i64 0, .bool false, .int .i64 0]) ?_ 1 _ rfl; refine blk_put (cs := #[.int .i64 0, .int .i64 0, .int .i64 0, .bool false, .int .i64 0]) ?_ 0 _ rfl; (with_reducible repeat (first | refine blk_drewN ?_ _ | refine blk_drew ?_ | refine blk_alloc ?_ _)); exact BK304.out))⟩; have n3_ : Aside0 (Below w.heap.size w w58) := ⟨(by rw [hw]; exact (go_b3 HB.out GE299.out GE302.out GE304.out))⟩; clear hw; clear BK299; clear BK302; clear BK304; clear HB; have BK299 := n0_; have BK302 := n1_; have BK304 := n2_; have HB := n3_; clear n0_ n1_ n2_ n3_; have hcz59_0 : w58.cell? ⟨gb304, 0, none⟩ = some (.int .i64 ((rd_T103 l1 ((rd_T33 l2_0 a3).f1)).f0)) := (blk_cell BK304.out 0).trans rfl; have hcz59_1 : w58.cell? ⟨gb304, 1, none⟩ = some (.int .i64 ((rd_T103 l1 ((rd_T33 l2_0 a3).f1)).f1)) := (blk_cell BK304.out 1).trans rfl; have hcz59_2 : w58.cell? ⟨gb304, 2, none⟩ = some (.int .i64 ((rd_T103 l1 ((rd_T33 l2_0 a3).f1)).f2)) := (blk_cell BK304.out 2).trans rfl; have hcz59_3 : w58.cell? ⟨gb304, 3, none⟩ = some (.bool ((rd_T103 l1 ((rd_T33 l2_0 a3).f1)).f3)) := (blk_cell BK304.out 3).trans rfl; have hcz59_4 : w58.cell? ⟨gb304, 4, none⟩ = some (.int .i64 ((rd_T103 l1 ((rd_T33 l2_0 a3).f1)).f4)) := (blk_cell BK304.out 4).trans rfl; have hfz59_0 := blk_frozen BK304.out 0; have hfz59_1 := blk_frozen BK304.out 1; have hfz59_2 := blk_frozen BK304.out 2; have hfz59_3 := blk_frozen BK304.out 3; have hfz59_4 := blk_frozen BK304.out 4; have q60 : (((rd_T103 l1 ((rd_T33 l2_0 a3).f1)).f2) : Int) ≤ ((l0.length : Int) : Int) := of_dec; obtain ⟨i060, hi060, _, hsz60, _⟩ := info_parts info5; have hroom60 : l0.length ≤ c0 := HC0.out; have hC60 : Kd.C (Kd.int .u8) _ A0 l0.length l0 := HR0.out; have ql60 : (((rd_T103 l1 ((rd_T33 l2_0 a3).f1)).f1) : Int) ≤ (((rd_T103 l1 ((rd_T33 l2_0 a3).f1)).f2) : Int) := of_dec; have q060 : (0 : Int) ≤ (((rd_T103 l1 ((rd_T33 l2_0 a3).f1)).f1) : Int) := of_dec; have hcut60 := cut_mid (P := Tryd.prog) 47 5 .i64 .i64 Tryd.underlying47 hi060 1 hsz60 A0 l0.length c0 ((rd_T103 l1 ((rd_T33 l2_0 a3).f1)).f1) ((rd_T103 l1 ((rd_T33 l2_0 a3).f1)).f2) q060 ql60 q60 hroom60; have hr60 := Kd.C_mid (lo := (((rd_T103 l1 ((rd_T33 l2_0 a3).f1)).f1) : Int).toNat) (hi := (((rd_T103 l1 ((rd_T33 l2_0 a3).f1)).f2) : Int).toNat) (c := c0) hC60 (by omega) (by omega) hroom60; obtain ⟨A60, hA60⟩ : ∃ A1, A1 = (if c0 = (((rd_T103 l1 ((rd_T33 l2_0 a3).f1)).f1) : Int).toNat then A0 else (A0 : Option Addr).map (·.add ((((rd_T103 l1 ((rd_T33 l2_0 a3).f1)).f1) : Int).toNat * 1))) := ⟨_, rfl⟩; obtain ⟨c60, hc60⟩ : ∃ c1, c1 = c0 - (((rd_T103 l1 ((rd_T33 l2_0 a3).f1)).f1) : Int).toNat := ⟨_, rfl⟩; have hy60 : y305.length = (((rd_T103 l1 ((rd_T33 l2_0 a3).f1)).f2) : Int).toNat - (((rd_T103 l1 ((rd_T33 l2_0 a3).f1)).f1) : Int).toNat := (by rw [Ny305.out, List.length_drop, List.length_take] <;> omega); rw [show ((l0).take (((rd_T103 l1 ((rd_T33 l2_0 a3).f1)).f2) : Int).toNat).drop (((rd_T103 l1 ((rd_T33 l2_0 a3).f1)).f1) : Int).toNat = y305 from Ny305.out.symm] at hr60; replace hr60 : Kd.C (Kd.int .u8) _ A60 y305.length y305 := (by rw [hA60]; exact hr60); rw [← hy60, ← hA60, ← hc60] at hcut60; have HR308 := Aside0.mk hr60; have HC308 := Aside0.mk (show y305.length ≤ c60 from by rw [hy60, hc60]; exact Nat.sub_le_sub_right (Nat.le_trans (by omega) hroom60) _); clear hr60 hC60 hroom60 hi060 hsz60 hc60; have KY60 := Aside0.mk hy60; have KA60 := Aside0.mk hA60; clear hy60 hA60; replace q60 := eq_true q60; have hcv61 := Kd.C_string (P := Tryd.prog) (A := A60) (c := c60) Tryd.underlying47 Tryd.underlying5 Tryd.underlying9 (Kd.C_below HR308.out HB.out)))
               go_ret
               exact ⟨by first | rfl | (simp [*, errW_none, errW_some, erT_no, erV_no, erT_at, erV_at] <;> rfl), by repeat (first | (with_reducible first | exact HB.out | apply below_alloc | apply pw_below_drewN | apply below_drew1 | refine below_set ?_ GE299.out | refine below_set ?_ GE302.out | refine below_set ?_ GE304.out) | exact HB.out)⟩
              ·rw [if_neg c51] at H
               exact absurd H (by simp)
             ·rw [if_neg c50] at H
              exact absurd H (by simp)
            ·rw [if_neg c49] at H
             exact absurd H (by simp)
        ·rw [if_neg c27] at H
         exact absurd H (by simp)
       ·rw [if_neg c26] at H
        exact absurd H (by simp)
   ·rw [if_neg c8] at H
    exact absurd H (by simp)
  ·rw [if_neg c7] at H
   exact absurd H (by simp)
 ·replace c6 := Bool.eq_false_iff.mpr c6
  subst c6
  have H1 : (some (⟨#[]⟩ : ByteArray)) = some r := by rw [if_neg (show ¬ (false = true) by decide)] at H; exact H
  clear H
  have H := H1
  clear H1
  obtain rfl := Option.some.inj H
  go_enter Tryd.func48, Tryd.ntmps48
  go_wp2_with (first | ((with_reducible refine gate_dst (N := 6) rfl ?_); (try (refine gate_guard (by rfl) ?_; dsimp only)); refine box_event ?hg (N := 6) ?hd (cs := #[.slice A2_0 l2_0.length c2_0]) (t := 24) ?hr ?_; (case hd => rfl); (case hg => rfl); (case hr => first | (go_simp; done) | (go_simp; rfl)); intro gb299 hg w62 hbox hb; have n0_ := Aside0.mk (below_step (go_b HB.out) hb); have n1_ := Aside0.mk (hbox); have n2_ := Aside0.mk ((by rw [hg]; exact (below_size (go_b HB.out)) : w.heap.size ≤ gb299)); have n3_ := n2_; clear HB; have HB := n0_; have BK299 := n1_; have GW299 := n2_; have GE299 := n3_; clear n0_ n1_ n2_ n3_; clear hb hbox hg; have hcz63_0 : w62.cell? ⟨gb299, 0, none⟩ = some (.slice A2_0 l2_0.length c2_0) := (blk_cell BK299.out 0).trans rfl; have hfz63_0 := blk_frozen BK299.out 0) | ((with_reducible refine gate_callee (f := 49) rfl ?_); refine goesL_ (some 13) rfl rfl Tryd.func49 (by kernel_rfl) rfl #[.agg #[.slice A2_0 l2_0.length c2_0], .int .i64 a3] rfl (by (try simp only [List.map_toArray, List.map_cons, List.map_nil]); first | done | rfl | (simp only [List.length_drop, List.length_take]; rfl)) ?_; (with_reducible refine (cavilref15_In.calls _ _ l2_0 a3 false _ ?side1 ?side2 A5.out).mono ?_); (case side1 => repeat (first | exact (Kd.C_below HR2_0.out HB.out) | (with_reducible refine Kd.C_alloc ?_ _) | (with_reducible refine Kd.C_drewN ?_ _) | (with_reducible refine Kd.C_drew ?_))); (case side2 => exact HC2_0.out); rintro e w64 ⟨rfl, hb⟩; refine ⟨_, rfl, ?_⟩; have n0_ := Aside0.mk (blk_below (g := gb299) (o := .cells #[.slice A2_0 l2_0.length c2_0] 24 (0, 0)) (go_k BK299.out) hb); have n1_ := Aside0.mk (below_step (go_b1 HB.out GE299.out) hb); clear BK299; clear HB; have BK299 := n0_; have HB := n1_; clear n0_ n1_; (try clear hb); (try clear hb2); (try clear hk); (try clear hi)))
  go_ret
  exact ⟨by first | rfl | (simp [*, errW_none, errW_some, erT_no, erV_no, erT_at, erV_at] <;> rfl), by repeat (first | (with_reducible first | exact HB.out | apply below_alloc | apply pw_below_drewN | apply below_drew1 | refine below_set ?_ GE299.out) | exact HB.out)⟩

end Go.Proofs.YtnpgadfoohjlnaaDoor.QV
