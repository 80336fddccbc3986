/- Where a Lean function of this text answers, the Go function of its name comes to that answer: no other condition. Written by a program of this session out of the translation; Lean checks it. -/
import Derived.Test.YtnpgadfoohjlnaaQB0
import Derived.Test.YtnpgadfoohjlnaaQB2
import Derived.Test.YtnpgadfoohjlnaaQB3
namespace Go.Proofs.Ytnpgadfoohjlnaa.QB
open Go.RowKit Go.Proofs.YtnpgadfoohjlnaaW.PrintWords Go.Proofs.YtnpgadfoohjlnaaW.PrintLast Go.Proofs.YtnpgadfoohjlnaaW.PrintMore Go.Proofs.YtnpgadfoohjlnaaW.PrintX
attribute [local go_sem] max2_int min2_int max_two min_two max_three min_three max_four min_four   -- for this text's walks alone
set_option linter.unusedVariables false
set_option linter.unusedSimpArgs false

/-! ### utf_Check: function 55 -/
def utf_Check.f (k : Nat) (l0 : List Int) : Option (Option Er) := if (l0.length : Int) > 16777216 then (some (some (Er.no 2))) else ((utf_walk.f k l0).bind fun bt140 => (if bt140.2 < (l0.length : Int) then (some (some (Er.at_ bt140.2 (Er.no 3)))) else (some none)))
theorem utf_Check.mono : ∀ a0 k, LeO (utf_Check.f k a0) (utf_Check.f (k + 1) a0) := by
  intro a0 k
  unfold utf_Check.f
  repeat' first
      | (with_reducible exact utf_walk.mono _ _)
      | (with_reducible exact LeO.refl _)
      | (with_reducible exact LeO.none _)
      | (with_reducible refine LeO.ite ?_ ?_)
      | (with_reducible refine LeO.bind ?_ (fun _ => ?_))
      | exact utf_walk.mono _ _
      | exact LeO.none _
      | refine LeO.ite ?_ ?_
      | refine LeO.bind ?_ (fun _ => ?_)
set_option maxHeartbeats 8000000 in
set_option maxRecDepth 100000 in
theorem utf_Check.calls (k : Nat) (A0 : Option Addr) (c0 : Nat) (l0 : List Int) (r : Option Er) (w : World) (hr0 : Kd.C (Kd.int .u8) w A0 l0.length l0) (hc0 : l0.length ≤ c0) (h : utf_Check.f k l0 = some r) :
    Calls Try.prog 55 #[.slice A0 l0.length c0] w fun e w' => e = .returned (errW r) ∧ Drawn0 w w' := by
  have hu32 := Try.underlying32
  have hu36 := Try.underlying36
  have HR0 := Aside0.mk hr0
  have HC0 := Aside0.mk hc0
  clear hr0 hc0
  have H : (if (l0.length : Int) > 16777216 then (some (some (Er.no 2))) else ((utf_walk.f k l0).bind fun bt140 => (if bt140.2 < (l0.length : Int) then (some (some (Er.at_ bt140.2 (Er.no 3)))) else (some none)))) = some r := h
  clear h
  by_cases c2 : (l0.length : Int) > 16777216
  · rw [if_pos c2] at H
    have c2b0 : decide (16777216 < (l0.length : Int)) = true := decide_eq_true c2
    have c2b1 : decide (16777216 < l0.length) = true := decide_eq_true (by omega)
    clear c2
    obtain rfl := Option.some.inj H
    go_enter Try.func55, Try.ntmps55
    go_wp2
    go_ret
    exact ⟨by first | rfl | (simp; done) | (simp [*]; done), by repeat (first | exact Drawn0.refl _ | apply Drawn0.step)⟩
  · rw [if_neg c2] at H
    have c2b0 : decide (16777216 < (l0.length : Int)) = false := decide_eq_false c2
    have c2b1 : decide (16777216 < l0.length) = false := decide_eq_false (by omega)
    clear c2
    replace H := Option.bind_eq_some_iff.mp H
    obtain ⟨⟨t140, t141⟩, A30, H⟩ := H
    replace H : (if t141 < (l0.length : Int) then (some (some (Er.at_ t141 (Er.no 3)))) else (some none)) = some r := H
    have A3 := Aside0.mk A30
    clear A30
    by_cases c4 : t141 < (l0.length : Int)
    · rw [if_pos c4] at H
      have c4b0 : decide (t141 < (l0.length : Int)) = true := decide_eq_true c4
      clear c4
      obtain rfl := Option.some.inj H
      go_enter Try.func55, Try.ntmps55
      go_wp2_with (first | ((with_reducible refine gate_callee (f := 56) rfl ?_); refine goesL_ (some 11) rfl rfl Try.func56 (by kernel_rfl) rfl #[.slice A0 l0.length c0] rfl (by (try simp only [List.map_toArray, List.map_cons, List.map_nil]); first | done | rfl | (simp only [List.length_drop, List.length_take]; rfl)) ?_; (with_reducible refine (utf_walk.calls k _ _ l0 t140 t141 _ ?side1 ?side2 A3.out).mono ?_); (case side1 => repeat (first | exact HR0.out | (with_reducible refine Kd.C_alloc ?_ _) | (with_reducible refine Kd.C_drewN ?_ _) | (with_reducible refine Kd.C_drew ?_))); (case side2 => exact HC0.out); rintro e w' ⟨rfl, ⟨nd, rfl⟩⟩; refine ⟨_, rfl, ?_⟩))
      go_ret
      exact ⟨by first | rfl | (simp; done) | (simp [*]; done), by repeat (first | exact Drawn0.refl _ | apply Drawn0.step)⟩
    · rw [if_neg c4] at H
      have c4b0 : decide (t141 < (l0.length : Int)) = false := decide_eq_false c4
      clear c4
      obtain rfl := Option.some.inj H
      go_enter Try.func55, Try.ntmps55
      go_wp2_with (first | ((with_reducible refine gate_callee (f := 56) rfl ?_); refine goesL_ (some 11) rfl rfl Try.func56 (by kernel_rfl) rfl #[.slice A0 l0.length c0] rfl (by (try simp only [List.map_toArray, List.map_cons, List.map_nil]); first | done | rfl | (simp only [List.length_drop, List.length_take]; rfl)) ?_; (with_reducible refine (utf_walk.calls k _ _ l0 t140 t141 _ ?side1 ?side2 A3.out).mono ?_); (case side1 => repeat (first | exact HR0.out | (with_reducible refine Kd.C_alloc ?_ _) | (with_reducible refine Kd.C_drewN ?_ _) | (with_reducible refine Kd.C_drew ?_))); (case side2 => exact HC0.out); rintro e w' ⟨rfl, ⟨nd, rfl⟩⟩; refine ⟨_, rfl, ?_⟩))
      go_ret
      exact ⟨by first | rfl | (simp; done) | (simp [*]; done), by repeat (first | exact Drawn0.refl _ | apply Drawn0.step)⟩

/-! ### edit_one: function 51 -/
mutual
def edit_one.j0 : Nat → List Int → Bool → Int → Int → ByteArray → Option (Option Er)
  | 0, _, _, _, _, _ => none
  | k + 1, x0, x12, x144000, x144001, x144002 => if x12 = true then (some (some (Er.no 5))) else ((utf_Boundary.f x0 x144000).bind fun t146 => (if t146 = true then ((utf_Boundary.f x0 x144001).bind fun t147 => (edit_one.j1 k (!t147) x144000 x144001 x144002)) else (edit_one.j1 k true x144000 x144001 x144002)))
def edit_one.j1 : Nat → Bool → Int → Int → ByteArray → Option (Option Er)
  | 0, _, _, _, _ => none
  | k + 1, x45, x144000, x144001, x144002 => if x45 = true then (some (some (Er.no 4))) else (if x144002.size ≤ 9223372036854775807 then ((utf_Check.f k (bytesOf x144002)).bind fun t151 => (if t151.isNone = true then (some none) else (some (some (Er.no 3))))) else (none))
end
def edit_one.f (k : Nat) (l0 : List Int) (l1 : List (S64)) (a2 : Int) : Option (Option Er) := if 0 ≤ a2 then (if a2 < (l1.length : Int) then (if ((rd_T64 l1 a2).f0) > ((rd_T64 l1 a2).f1) then (edit_one.j0 k l0 true ((rd_T64 l1 a2).f0) ((rd_T64 l1 a2).f1) ((rd_T64 l1 a2).f2)) else (if a2 > 0 then (if 0 ≤ (wrap64 (a2 - 1)) then (if (wrap64 (a2 - 1)) < (l1.length : Int) then (if ((rd_T64 l1 a2).f0) < ((rd_T64 l1 (wrap64 (a2 - 1))).f1) then (edit_one.j0 k l0 true ((rd_T64 l1 a2).f0) ((rd_T64 l1 a2).f1) ((rd_T64 l1 a2).f2)) else (edit_one.j0 k l0 (((rd_T64 l1 a2).f0) == ((rd_T64 l1 (wrap64 (a2 - 1))).f0)) ((rd_T64 l1 a2).f0) ((rd_T64 l1 a2).f1) ((rd_T64 l1 a2).f2))) else (none)) else (none)) else (edit_one.j0 k l0 false ((rd_T64 l1 a2).f0) ((rd_T64 l1 a2).f1) ((rd_T64 l1 a2).f2)))) else (none)) else (none)
theorem edit_one.mono_l : ∀ k, (∀ y0 y1 y2 y3 y4, LeO (edit_one.j0 k y0 y1 y2 y3 y4) (edit_one.j0 (k + 1) y0 y1 y2 y3 y4)) ∧ (∀ y0 y1 y2 y3, LeO (edit_one.j1 k y0 y1 y2 y3) (edit_one.j1 (k + 1) y0 y1 y2 y3))
  | 0 => ⟨fun _ _ _ _ _ r h => by simp [edit_one.j0] at h, fun _ _ _ _ r h => by simp [edit_one.j1] at h⟩
  | k + 1 => by
    obtain ⟨ih0, ih1⟩ := edit_one.mono_l k
    refine ⟨?_, ?_⟩
    · intro y0 y1 y2 y3 y4
      unfold edit_one.j0
      repeat' first
      | (with_reducible exact ih0 _ _ _ _ _)
      | (with_reducible exact ih1 _ _ _ _)
      | (with_reducible exact utf_Check.mono _ _)
      | (with_reducible exact LeO.refl _)
      | (with_reducible exact LeO.none _)
      | (with_reducible refine LeO.ite ?_ ?_)
      | (with_reducible refine LeO.bind ?_ (fun _ => ?_))
      | exact ih0 _ _ _ _ _
      | exact ih1 _ _ _ _
      | exact utf_Check.mono _ _
      | exact LeO.none _
      | refine LeO.ite ?_ ?_
      | refine LeO.bind ?_ (fun _ => ?_)
    · intro y0 y1 y2 y3
      unfold edit_one.j1
      repeat' first
      | (with_reducible exact ih0 _ _ _ _ _)
      | (with_reducible exact ih1 _ _ _ _)
      | (with_reducible exact utf_Check.mono _ _)
      | (with_reducible exact LeO.refl _)
      | (with_reducible exact LeO.none _)
      | (with_reducible refine LeO.ite ?_ ?_)
      | (with_reducible refine LeO.bind ?_ (fun _ => ?_))
      | exact ih0 _ _ _ _ _
      | exact ih1 _ _ _ _
      | exact utf_Check.mono _ _
      | exact LeO.none _
      | refine LeO.ite ?_ ?_
      | refine LeO.bind ?_ (fun _ => ?_)
theorem edit_one.mono : ∀ a0 a1 a2 k, LeO (edit_one.f k a0 a1 a2) (edit_one.f (k + 1) a0 a1 a2) := by
  intro a0 a1 a2 k
  obtain ⟨ih0, ih1⟩ := edit_one.mono_l k
  unfold edit_one.f
  repeat' first
      | (with_reducible exact ih0 _ _ _ _ _)
      | (with_reducible exact ih1 _ _ _ _)
      | (with_reducible exact utf_Check.mono _ _)
      | (with_reducible exact LeO.refl _)
      | (with_reducible exact LeO.none _)
      | (with_reducible refine LeO.ite ?_ ?_)
      | (with_reducible refine LeO.bind ?_ (fun _ => ?_))
      | exact ih0 _ _ _ _ _
      | exact ih1 _ _ _ _
      | exact utf_Check.mono _ _
      | exact LeO.none _
      | refine LeO.ite ?_ ?_
      | refine LeO.bind ?_ (fun _ => ?_)
set_option maxHeartbeats 8000000 in
set_option maxRecDepth 100000 in
theorem edit_one.calls (k : Nat) (A0 : Option Addr) (c0 : Nat) (l0 : List Int) (A1 : Option Addr) (c1 : Nat) (l1 : List (S64)) (a2 : Int) (r : Option Er) (w : World) (hr0 : Kd.C (Kd.int .u8) w A0 l0.length l0) (hc0 : l0.length ≤ c0) (hr1 : Kd.C k64 w A1 l1.length l1) (hc1 : l1.length ≤ c1) (h : edit_one.f k l0 l1 a2 = some r) :
    Calls Try.prog 51 #[.slice A0 l0.length c0, .slice A1 l1.length c1, .int .i64 a2] w fun e w' => e = .returned (errW r) ∧ Below w.heap.size w w' := by
  have hu64 := Try.underlying64
  have hu32 := Try.underlying32
  have hu36 := Try.underlying36
  have HR0 := Aside0.mk hr0
  have HC0 := Aside0.mk hc0
  clear hr0 hc0
  have HR1 := Aside0.mk hr1
  have HC1 := Aside0.mk hc1
  clear hr1 hc1
  have HB := Aside0.mk (Below.refl w.heap.size w)
  have H : (if 0 ≤ a2 then (if a2 < (l1.length : Int) then (if ((rd_T64 l1 a2).f0) > ((rd_T64 l1 a2).f1) then (edit_one.j0 k l0 true ((rd_T64 l1 a2).f0) ((rd_T64 l1 a2).f1) ((rd_T64 l1 a2).f2)) else (if a2 > 0 then (if 0 ≤ (wrap64 (a2 - 1)) then (if (wrap64 (a2 - 1)) < (l1.length : Int) then (if ((rd_T64 l1 a2).f0) < ((rd_T64 l1 (wrap64 (a2 - 1))).f1) then (edit_one.j0 k l0 true ((rd_T64 l1 a2).f0) ((rd_T64 l1 a2).f1) ((rd_T64 l1 a2).f2)) else (edit_one.j0 k l0 (((rd_T64 l1 a2).f0) == ((rd_T64 l1 (wrap64 (a2 - 1))).f0)) ((rd_T64 l1 a2).f0) ((rd_T64 l1 a2).f1) ((rd_T64 l1 a2).f2))) else (none)) else (none)) else (edit_one.j0 k l0 false ((rd_T64 l1 a2).f0) ((rd_T64 l1 a2).f1) ((rd_T64 l1 a2).f2)))) else (none)) else (none)) = some r := h
  clear h
  by_cases c4 : 0 ≤ a2
  · rw [if_pos c4] at H
    have c4b0 : decide (0 ≤ a2) = true := decide_eq_true c4
    clear c4
    by_cases c5 : a2 < (l1.length : Int)
    · rw [if_pos c5] at H
      have c5b0 : decide (a2 < (l1.length : Int)) = true := decide_eq_true c5
      clear c5
      have HC6 := Aside0.mk H
      clear H
      have p142 : 0 ≤ (a2 : Int) := of_decide_eq_true (by first | (with_reducible assumption) | assumption)
      have q142 : a2 < (l1.length : Int) := of_decide_eq_true (by first | (with_reducible assumption) | assumption)
      obtain ⟨ad142, e142, hx142_0, hx142_1, hx142_2⟩ := at_T64 HR1.out a2 p142 q142
      cases e142
      replace p142 := eq_true p142
      replace q142 := eq_true q142
      go_enter Try.func51, Try.ntmps51
      go_upto_region 2 with (first | ((with_reducible refine gate_dst (N := 7) rfl ?_); refine box_event ?hg (N := 7) ?hd (cs := #[.int .i64 0, .int .i64 0, .string (⟨#[]⟩ : ByteArray)]) (t := 64) ?hr ?_; (case hd => rfl); (case hg => rfl); (case hr => first | (go_simp; done) | (go_simp; rfl)); intro gb143 hg w7 hbox hb; have n0_ := Aside0.mk (below_step (by repeat (first | (with_reducible first | exact HB.out | apply below_alloc | apply pw_below_drewN | apply below_drew1) | exact HB.out)) hb); have n1_ := Aside0.mk (hbox); have n2_ := Aside0.mk ((by rw [hg]; exact (below_size (by repeat (first | (with_reducible first | exact HB.out | apply below_alloc | apply pw_below_drewN | apply below_drew1) | exact HB.out))) : w.heap.size ≤ gb143)); have n3_ := Aside0.mk ((by rw [hg]; exact (below_size (by repeat (first | (with_reducible first | exact HB.out | apply below_alloc | apply pw_below_drewN | apply below_drew1) | exact HB.out))) : w.heap.size ≤ gb143)); clear HB; have HB := n0_; have BK143 := n1_; have GW143 := n2_; have GE143 := n3_; clear n0_ n1_ n2_ n3_; clear hb hbox hg; have hcz8_0 : w7.cell? ⟨gb143, 0, none⟩ = some (.int .i64 0) := (blk_cell BK143.out 0).trans rfl; have hcz8_1 : w7.cell? ⟨gb143, 1, none⟩ = some (.int .i64 0) := (blk_cell BK143.out 1).trans rfl; have hcz8_2 : w7.cell? ⟨gb143, 2, none⟩ = some (.string (⟨#[]⟩ : ByteArray)) := (blk_cell BK143.out 2).trans rfl; have hfz8_0 := blk_frozen BK143.out 0; have hfz8_1 := blk_frozen BK143.out 1; have hfz8_2 := blk_frozen BK143.out 2))
      repeat (go_quiet (first | ((with_reducible refine gate_dst (N := 7) rfl ?_); refine box_event ?hg (N := 7) ?hd (cs := #[.int .i64 0, .int .i64 0, .string (⟨#[]⟩ : ByteArray)]) (t := 64) ?hr ?_; (case hd => rfl); (case hg => rfl); (case hr => first | (go_simp; done) | (go_simp; rfl)); intro gb143 hg w7 hbox hb; have n0_ := Aside0.mk (below_step (by repeat (first | (with_reducible first | exact HB.out | apply below_alloc | apply pw_below_drewN | apply below_drew1) | exact HB.out)) hb); have n1_ := Aside0.mk (hbox); have n2_ := Aside0.mk ((by rw [hg]; exact (below_size (by repeat (first | (with_reducible first | exact HB.out | apply below_alloc | apply pw_below_drewN | apply below_drew1) | exact HB.out))) : w.heap.size ≤ gb143)); have n3_ := Aside0.mk ((by rw [hg]; exact (below_size (by repeat (first | (with_reducible first | exact HB.out | apply below_alloc | apply pw_below_drewN | apply below_drew1) | exact HB.out))) : w.heap.size ≤ gb143)); clear HB; have HB := n0_; have BK143 := n1_; have GW143 := n2_; have GE143 := n3_; clear n0_ n1_ n2_ n3_; clear hb hbox hg; have hcz8_0 : w7.cell? ⟨gb143, 0, none⟩ = some (.int .i64 0) := (blk_cell BK143.out 0).trans rfl; have hcz8_1 : w7.cell? ⟨gb143, 1, none⟩ = some (.int .i64 0) := (blk_cell BK143.out 1).trans rfl; have hcz8_2 : w7.cell? ⟨gb143, 2, none⟩ = some (.string (⟨#[]⟩ : ByteArray)) := (blk_cell BK143.out 2).trans rfl; have hfz8_0 := blk_frozen BK143.out 0; have hfz8_1 := blk_frozen BK143.out 1; have hfz8_2 := blk_frozen BK143.out 2)); go_upto_region 2 with (first | ((with_reducible refine gate_dst (N := 7) rfl ?_); refine box_event ?hg (N := 7) ?hd (cs := #[.int .i64 0, .int .i64 0, .string (⟨#[]⟩ : ByteArray)]) (t := 64) ?hr ?_; (case hd => rfl); (case hg => rfl); (case hr => first | (go_simp; done) | (go_simp; rfl)); intro gb143 hg w7 hbox hb; have n0_ := Aside0.mk (below_step (by repeat (first | (with_reducible first | exact HB.out | apply below_alloc | apply pw_below_drewN | apply below_drew1) | exact HB.out)) hb); have n1_ := Aside0.mk (hbox); have n2_ := Aside0.mk ((by rw [hg]; exact (below_size (by repeat (first | (with_reducible first | exact HB.out | apply below_alloc | apply pw_below_drewN | apply below_drew1) | exact HB.out))) : w.heap.size ≤ gb143)); have n3_ := Aside0.mk ((by rw [hg]; exact (below_size (by repeat (first | (with_reducible first | exact HB.out | apply below_alloc | apply pw_below_drewN | apply below_drew1) | exact HB.out))) : w.heap.size ≤ gb143)); clear HB; have HB := n0_; have BK143 := n1_; have GW143 := n2_; have GE143 := n3_; clear n0_ n1_ n2_ n3_; clear hb hbox hg; have hcz8_0 : w7.cell? ⟨gb143, 0, none⟩ = some (.int .i64 0) := (blk_cell BK143.out 0).trans rfl; have hcz8_1 : w7.cell? ⟨gb143, 1, none⟩ = some (.int .i64 0) := (blk_cell BK143.out 1).trans rfl; have hcz8_2 : w7.cell? ⟨gb143, 2, none⟩ = some (.string (⟨#[]⟩ : ByteArray)) := (blk_cell BK143.out 2).trans rfl; have hfz8_0 := blk_frozen BK143.out 0; have hfz8_1 := blk_frozen BK143.out 1; have hfz8_2 := blk_frozen BK143.out 2)))
      (try simp only [Act.put, List.setIfInBounds_toArray, List.set_cons_zero, List.set_cons_succ])
      go_cut [12] (fun v12 wc => ∃ (kq : Nat) (x12_5 : Bool), v12 = .bool x12_5 ∧ Aside0 (edit_one.j0 kq l0 x12_5 ((rd_T64 l1 a2).f0) ((rd_T64 l1 a2).f1) ((rd_T64 l1 a2).f2) = some r) ∧ Aside0 (kq ≤ k) ∧ Aside0 (wc.heap[gb143]? = some (.cells #[.int .i64 ((rd_T64 l1 a2).f0), .int .i64 ((rd_T64 l1 a2).f1), .string ((rd_T64 l1 a2).f2)] 64 (0, 0))) ∧ Aside0 (Below w.heap.size w wc))
      case first =>
        have H := HC6.out
        clear HC6
        by_cases c9 : ((rd_T64 l1 a2).f0) > ((rd_T64 l1 a2).f1)
        · rw [if_pos c9] at H
          have c9b0 : decide (((rd_T64 l1 a2).f1) < ((rd_T64 l1 a2).f0)) = true := decide_eq_true c9
          clear c9
          (first | rw [c9b0] | (simp only [i64_w, i32_w]; rw [c9b0]) | skip)
          have H' := Aside0.mk H
          clear H
          have hcz10_0 : w7.cell? ⟨gb143, 0, none⟩ = some (.int .i64 0) := (blk_cell BK143.out 0).trans rfl
          have hcz10_1 : w7.cell? ⟨gb143, 1, none⟩ = some (.int .i64 0) := (blk_cell BK143.out 1).trans rfl
          have hcz10_2 : w7.cell? ⟨gb143, 2, none⟩ = some (.string (⟨#[]⟩ : ByteArray)) := (blk_cell BK143.out 2).trans rfl
          have hfz10_0 := blk_frozen BK143.out 0
          have hfz10_1 := blk_frozen BK143.out 1
          have hfz10_2 := blk_frozen BK143.out 2
          go_wp2
          repeat (go_quiet (fail); try go_wp2)
          go_meet
          case rel => exact ⟨_, (true), (by first | rfl | (simp; done) | (simp [*]; done)), H', ⟨by first | omega | exact Nat.le_refl _⟩, ⟨by (with_reducible repeat (first | refine blk_drewN ?_ _ | refine blk_drew ?_ | refine blk_alloc ?_ _)); refine blk_put (cs := #[.int .i64 ((rd_T64 l1 a2).f0), .int .i64 ((rd_T64 l1 a2).f1), .string (⟨#[]⟩ : ByteArray)]) ?_ 2 _ rfl; (with_reducible repeat (first | refine blk_drewN ?_ _ | refine blk_drew ?_ | refine blk_alloc ?_ _)); refine blk_put (cs := #[.int .i64 ((rd_T64 l1 a2).f0), .int .i64 0, .string (⟨#[]⟩ : ByteArray)]) ?_ 1 _ rfl; (with_reducible repeat (first | refine blk_drewN ?_ _ | refine blk_drew ?_ | refine blk_alloc ?_ _)); refine blk_put (cs := #[.int .i64 0, .int .i64 0, .string (⟨#[]⟩ : ByteArray)]) ?_ 0 _ rfl; (with_reducible repeat (first | refine blk_drewN ?_ _ | refine blk_drew ?_ | refine blk_alloc ?_ _)); exact BK143.out⟩, ⟨by repeat (first | (with_reducible first | exact HB.out | apply below_alloc | apply pw_below_drewN | apply below_drew1 | refine below_set ?_ GE143.out) | exact HB.out)⟩⟩
        · rw [if_neg c9] at H
          have c9b0 : decide (((rd_T64 l1 a2).f1) < ((rd_T64 l1 a2).f0)) = false := decide_eq_false c9
          clear c9
          (first | rw [c9b0] | (simp only [i64_w, i32_w]; rw [c9b0]) | skip)
          by_cases c11 : a2 > 0
          · rw [if_pos c11] at H
            have c11b0 : decide (0 < a2) = true := decide_eq_true c11
            clear c11
            obtain ⟨ji12, hji12⟩ : ∃ j_ : Int, (wrap64 (a2 - 1)) = j_ := ⟨_, rfl⟩
            replace H : (if 0 ≤ (ji12) then (if (ji12) < (l1.length : Int) then (if ((rd_T64 l1 a2).f0) < ((rd_T64 l1 (ji12)).f1) then (edit_one.j0 k l0 true ((rd_T64 l1 a2).f0) ((rd_T64 l1 a2).f1) ((rd_T64 l1 a2).f2)) else (edit_one.j0 k l0 (((rd_T64 l1 a2).f0) == ((rd_T64 l1 (ji12)).f0)) ((rd_T64 l1 a2).f0) ((rd_T64 l1 a2).f1) ((rd_T64 l1 a2).f2))) else (none)) else (none)) = some r := by first | (rw [hji12] at H; exact H) | (simp only [hji12] at H ⊢; exact H)
            have hji12w : (IntKind.i64.wrap (a2 - 1)) = ji12 := (i64_w _).trans hji12
            by_cases c13 : 0 ≤ (ji12)
            · rw [if_pos c13] at H
              have c13b0 : decide (0 ≤ (ji12)) = true := decide_eq_true c13
              clear c13
              by_cases c14 : (ji12) < (l1.length : Int)
              · rw [if_pos c14] at H
                have c14b0 : decide ((ji12) < (l1.length : Int)) = true := decide_eq_true c14
                clear c14
                by_cases c15 : ((rd_T64 l1 a2).f0) < ((rd_T64 l1 (ji12)).f1)
                · rw [if_pos c15] at H
                  have c15b0 : decide (((rd_T64 l1 a2).f0) < ((rd_T64 l1 (ji12)).f1)) = true := decide_eq_true c15
                  clear c15
                  have H' := Aside0.mk H
                  clear H
                  have hcz16_0 : w7.cell? ⟨gb143, 0, none⟩ = some (.int .i64 0) := (blk_cell BK143.out 0).trans rfl
                  have hcz16_1 : w7.cell? ⟨gb143, 1, none⟩ = some (.int .i64 0) := (blk_cell BK143.out 1).trans rfl
                  have hcz16_2 : w7.cell? ⟨gb143, 2, none⟩ = some (.string (⟨#[]⟩ : ByteArray)) := (blk_cell BK143.out 2).trans rfl
                  have hfz16_0 := blk_frozen BK143.out 0
                  have hfz16_1 := blk_frozen BK143.out 1
                  have hfz16_2 := blk_frozen BK143.out 2
                  have p144 : 0 ≤ ((ji12) : Int) := of_decide_eq_true (by first | (with_reducible assumption) | assumption)
                  have q144 : (ji12) < (l1.length : Int) := of_decide_eq_true (by first | (with_reducible assumption) | assumption)
                  obtain ⟨ad144, e144, hx144_0, hx144_1, hx144_2⟩ := at_T64 HR1.out (ji12) p144 q144
                  obtain rfl : ad142 = ad144 := (by injection e144)
                  have hn144_0 : ad142.block ≠ gb143 := Nat.ne_of_lt (Nat.lt_of_lt_of_le (by have := World.block_lt_of_cell? _ _ hx144_0; first | rwa [add_block] at this | exact this) GW143.out)
                  have hn144_1 : ad142.block ≠ gb143 := Nat.ne_of_lt (Nat.lt_of_lt_of_le (by have := World.block_lt_of_cell? _ _ hx144_0; first | rwa [add_block] at this | exact this) GW143.out)
                  have hn144_2 : ad142.block ≠ gb143 := Nat.ne_of_lt (Nat.lt_of_lt_of_le (by have := World.block_lt_of_cell? _ _ hx144_0; first | rwa [add_block] at this | exact this) GW143.out)
                  replace hx144_0 := (HB.out.cell (World.block_lt_of_cell? w _ hx144_0)).trans hx144_0
                  replace hx144_1 := (HB.out.cell (World.block_lt_of_cell? w _ hx144_1)).trans hx144_1
                  replace hx144_2 := (HB.out.cell (World.block_lt_of_cell? w _ hx144_2)).trans hx144_2
                  replace hx144_0 := (cell_far (p := ⟨gb143, 0, none⟩) (by first | (rw [add_block]; exact hn144_0) | (show (Addr.add _ _).block ≠ _; rw [add_block]; exact hn144_0) | exact hn144_0) (.int .i64 ((rd_T64 l1 a2).f0))).trans hx144_0
                  replace hx144_1 := (cell_far (p := ⟨gb143, 0, none⟩) (by first | (rw [add_block]; exact hn144_0) | (show (Addr.add _ _).block ≠ _; rw [add_block]; exact hn144_0) | exact hn144_0) (.int .i64 ((rd_T64 l1 a2).f0))).trans hx144_1
                  replace hx144_2 := (cell_far (p := ⟨gb143, 0, none⟩) (by first | (rw [add_block]; exact hn144_0) | (show (Addr.add _ _).block ≠ _; rw [add_block]; exact hn144_0) | exact hn144_0) (.int .i64 ((rd_T64 l1 a2).f0))).trans hx144_2
                  replace hx144_0 := (cell_far (p := ⟨gb143, 1, none⟩) (by first | (rw [add_block]; exact hn144_1) | (show (Addr.add _ _).block ≠ _; rw [add_block]; exact hn144_1) | exact hn144_1) (.int .i64 ((rd_T64 l1 a2).f1))).trans hx144_0
                  replace hx144_1 := (cell_far (p := ⟨gb143, 1, none⟩) (by first | (rw [add_block]; exact hn144_1) | (show (Addr.add _ _).block ≠ _; rw [add_block]; exact hn144_1) | exact hn144_1) (.int .i64 ((rd_T64 l1 a2).f1))).trans hx144_1
                  replace hx144_2 := (cell_far (p := ⟨gb143, 1, none⟩) (by first | (rw [add_block]; exact hn144_1) | (show (Addr.add _ _).block ≠ _; rw [add_block]; exact hn144_1) | exact hn144_1) (.int .i64 ((rd_T64 l1 a2).f1))).trans hx144_2
                  replace hx144_0 := (cell_far (p := ⟨gb143, 2, none⟩) (by first | (rw [add_block]; exact hn144_2) | (show (Addr.add _ _).block ≠ _; rw [add_block]; exact hn144_2) | exact hn144_2) (.string ((rd_T64 l1 a2).f2))).trans hx144_0
                  replace hx144_1 := (cell_far (p := ⟨gb143, 2, none⟩) (by first | (rw [add_block]; exact hn144_2) | (show (Addr.add _ _).block ≠ _; rw [add_block]; exact hn144_2) | exact hn144_2) (.string ((rd_T64 l1 a2).f2))).trans hx144_1
                  replace hx144_2 := (cell_far (p := ⟨gb143, 2, none⟩) (by first | (rw [add_block]; exact hn144_2) | (show (Addr.add _ _).block ≠ _; rw [add_block]; exact hn144_2) | exact hn144_2) (.string ((rd_T64 l1 a2).f2))).trans hx144_2
                  (try have hy144_0 := fun (n_ : Nat) => (show (((((w7.drewN n_).setCell ⟨gb143, 0, none⟩ (.int .i64 ((rd_T64 l1 a2).f0))).setCell ⟨gb143, 1, none⟩ (.int .i64 ((rd_T64 l1 a2).f1))).setCell ⟨gb143, 2, none⟩ (.string ((rd_T64 l1 a2).f2)))).cell? _ = some _ from hx144_0))
                  (try have hy144_1 := fun (n_ : Nat) => (show (((((w7.drewN n_).setCell ⟨gb143, 0, none⟩ (.int .i64 ((rd_T64 l1 a2).f0))).setCell ⟨gb143, 1, none⟩ (.int .i64 ((rd_T64 l1 a2).f1))).setCell ⟨gb143, 2, none⟩ (.string ((rd_T64 l1 a2).f2)))).cell? _ = some _ from hx144_1))
                  (try have hy144_2 := fun (n_ : Nat) => (show (((((w7.drewN n_).setCell ⟨gb143, 0, none⟩ (.int .i64 ((rd_T64 l1 a2).f0))).setCell ⟨gb143, 1, none⟩ (.int .i64 ((rd_T64 l1 a2).f1))).setCell ⟨gb143, 2, none⟩ (.string ((rd_T64 l1 a2).f2)))).cell? _ = some _ from hx144_2))
                  clear hn144_0
                  clear hn144_1
                  clear hn144_2
                  replace p144 := eq_true p144
                  replace q144 := eq_true q144
                  go_wp2
                  repeat (go_quiet (fail); try go_wp2)
                  go_meet
                  case rel => exact ⟨_, (true), (by first | rfl | (simp; done) | (simp [*]; done)), H', ⟨by first | omega | exact Nat.le_refl _⟩, ⟨by (with_reducible repeat (first | refine blk_drewN ?_ _ | refine blk_drew ?_ | refine blk_alloc ?_ _)); refine blk_put (cs := #[.int .i64 ((rd_T64 l1 a2).f0), .int .i64 ((rd_T64 l1 a2).f1), .string (⟨#[]⟩ : ByteArray)]) ?_ 2 _ rfl; (with_reducible repeat (first | refine blk_drewN ?_ _ | refine blk_drew ?_ | refine blk_alloc ?_ _)); refine blk_put (cs := #[.int .i64 ((rd_T64 l1 a2).f0), .int .i64 0, .string (⟨#[]⟩ : ByteArray)]) ?_ 1 _ rfl; (with_reducible repeat (first | refine blk_drewN ?_ _ | refine blk_drew ?_ | refine blk_alloc ?_ _)); refine blk_put (cs := #[.int .i64 0, .int .i64 0, .string (⟨#[]⟩ : ByteArray)]) ?_ 0 _ rfl; (with_reducible repeat (first | refine blk_drewN ?_ _ | refine blk_drew ?_ | refine blk_alloc ?_ _)); exact BK143.out⟩, ⟨by repeat (first | (with_reducible first | exact HB.out | apply below_alloc | apply pw_below_drewN | apply below_drew1 | refine below_set ?_ GE143.out) | exact HB.out)⟩⟩
                · rw [if_neg c15] at H
                  have c15b0 : decide (((rd_T64 l1 a2).f0) < ((rd_T64 l1 (ji12)).f1)) = false := decide_eq_false c15
                  clear c15
                  have H' := Aside0.mk H
                  clear H
                  have hcz17_0 : w7.cell? ⟨gb143, 0, none⟩ = some (.int .i64 0) := (blk_cell BK143.out 0).trans rfl
                  have hcz17_1 : w7.cell? ⟨gb143, 1, none⟩ = some (.int .i64 0) := (blk_cell BK143.out 1).trans rfl
                  have hcz17_2 : w7.cell? ⟨gb143, 2, none⟩ = some (.string (⟨#[]⟩ : ByteArray)) := (blk_cell BK143.out 2).trans rfl
                  have hfz17_0 := blk_frozen BK143.out 0
                  have hfz17_1 := blk_frozen BK143.out 1
                  have hfz17_2 := blk_frozen BK143.out 2
                  have p144 : 0 ≤ ((ji12) : Int) := of_decide_eq_true (by first | (with_reducible assumption) | assumption)
                  have q144 : (ji12) < (l1.length : Int) := of_decide_eq_true (by first | (with_reducible assumption) | assumption)
                  obtain ⟨ad144, e144, hx144_0, hx144_1, hx144_2⟩ := at_T64 HR1.out (ji12) p144 q144
                  obtain rfl : ad142 = ad144 := (by injection e144)
                  have hn144_0 : ad142.block ≠ gb143 := Nat.ne_of_lt (Nat.lt_of_lt_of_le (by have := World.block_lt_of_cell? _ _ hx144_0; first | rwa [add_block] at this | exact this) GW143.out)
                  have hn144_1 : ad142.block ≠ gb143 := Nat.ne_of_lt (Nat.lt_of_lt_of_le (by have := World.block_lt_of_cell? _ _ hx144_0; first | rwa [add_block] at this | exact this) GW143.out)
                  have hn144_2 : ad142.block ≠ gb143 := Nat.ne_of_lt (Nat.lt_of_lt_of_le (by have := World.block_lt_of_cell? _ _ hx144_0; first | rwa [add_block] at this | exact this) GW143.out)
                  replace hx144_0 := (HB.out.cell (World.block_lt_of_cell? w _ hx144_0)).trans hx144_0
                  replace hx144_1 := (HB.out.cell (World.block_lt_of_cell? w _ hx144_1)).trans hx144_1
                  replace hx144_2 := (HB.out.cell (World.block_lt_of_cell? w _ hx144_2)).trans hx144_2
                  replace hx144_0 := (cell_far (p := ⟨gb143, 0, none⟩) (by first | (rw [add_block]; exact hn144_0) | (show (Addr.add _ _).block ≠ _; rw [add_block]; exact hn144_0) | exact hn144_0) (.int .i64 ((rd_T64 l1 a2).f0))).trans hx144_0
                  replace hx144_1 := (cell_far (p := ⟨gb143, 0, none⟩) (by first | (rw [add_block]; exact hn144_0) | (show (Addr.add _ _).block ≠ _; rw [add_block]; exact hn144_0) | exact hn144_0) (.int .i64 ((rd_T64 l1 a2).f0))).trans hx144_1
                  replace hx144_2 := (cell_far (p := ⟨gb143, 0, none⟩) (by first | (rw [add_block]; exact hn144_0) | (show (Addr.add _ _).block ≠ _; rw [add_block]; exact hn144_0) | exact hn144_0) (.int .i64 ((rd_T64 l1 a2).f0))).trans hx144_2
                  replace hx144_0 := (cell_far (p := ⟨gb143, 1, none⟩) (by first | (rw [add_block]; exact hn144_1) | (show (Addr.add _ _).block ≠ _; rw [add_block]; exact hn144_1) | exact hn144_1) (.int .i64 ((rd_T64 l1 a2).f1))).trans hx144_0
                  replace hx144_1 := (cell_far (p := ⟨gb143, 1, none⟩) (by first | (rw [add_block]; exact hn144_1) | (show (Addr.add _ _).block ≠ _; rw [add_block]; exact hn144_1) | exact hn144_1) (.int .i64 ((rd_T64 l1 a2).f1))).trans hx144_1
                  replace hx144_2 := (cell_far (p := ⟨gb143, 1, none⟩) (by first | (rw [add_block]; exact hn144_1) | (show (Addr.add _ _).block ≠ _; rw [add_block]; exact hn144_1) | exact hn144_1) (.int .i64 ((rd_T64 l1 a2).f1))).trans hx144_2
                  replace hx144_0 := (cell_far (p := ⟨gb143, 2, none⟩) (by first | (rw [add_block]; exact hn144_2) | (show (Addr.add _ _).block ≠ _; rw [add_block]; exact hn144_2) | exact hn144_2) (.string ((rd_T64 l1 a2).f2))).trans hx144_0
                  replace hx144_1 := (cell_far (p := ⟨gb143, 2, none⟩) (by first | (rw [add_block]; exact hn144_2) | (show (Addr.add _ _).block ≠ _; rw [add_block]; exact hn144_2) | exact hn144_2) (.string ((rd_T64 l1 a2).f2))).trans hx144_1
                  replace hx144_2 := (cell_far (p := ⟨gb143, 2, none⟩) (by first | (rw [add_block]; exact hn144_2) | (show (Addr.add _ _).block ≠ _; rw [add_block]; exact hn144_2) | exact hn144_2) (.string ((rd_T64 l1 a2).f2))).trans hx144_2
                  (try have hy144_0 := fun (n_ : Nat) => (show (((((w7.drewN n_).setCell ⟨gb143, 0, none⟩ (.int .i64 ((rd_T64 l1 a2).f0))).setCell ⟨gb143, 1, none⟩ (.int .i64 ((rd_T64 l1 a2).f1))).setCell ⟨gb143, 2, none⟩ (.string ((rd_T64 l1 a2).f2)))).cell? _ = some _ from hx144_0))
                  (try have hy144_1 := fun (n_ : Nat) => (show (((((w7.drewN n_).setCell ⟨gb143, 0, none⟩ (.int .i64 ((rd_T64 l1 a2).f0))).setCell ⟨gb143, 1, none⟩ (.int .i64 ((rd_T64 l1 a2).f1))).setCell ⟨gb143, 2, none⟩ (.string ((rd_T64 l1 a2).f2)))).cell? _ = some _ from hx144_1))
                  (try have hy144_2 := fun (n_ : Nat) => (show (((((w7.drewN n_).setCell ⟨gb143, 0, none⟩ (.int .i64 ((rd_T64 l1 a2).f0))).setCell ⟨gb143, 1, none⟩ (.int .i64 ((rd_T64 l1 a2).f1))).setCell ⟨gb143, 2, none⟩ (.string ((rd_T64 l1 a2).f2)))).cell? _ = some _ from hx144_2))
                  clear hn144_0
                  clear hn144_1
                  clear hn144_2
                  replace p144 := eq_true p144
                  replace q144 := eq_true q144
                  have p145 : 0 ≤ ((ji12) : Int) := of_decide_eq_true (by first | (with_reducible assumption) | assumption)
                  have q145 : (ji12) < (l1.length : Int) := of_decide_eq_true (by first | (with_reducible assumption) | assumption)
                  obtain ⟨ad145, e145, hx145_0, hx145_1, hx145_2⟩ := at_T64 HR1.out (ji12) p145 q145
                  obtain rfl : ad142 = ad145 := (by injection e145)
                  have hn145_0 : ad142.block ≠ gb143 := Nat.ne_of_lt (Nat.lt_of_lt_of_le (by have := World.block_lt_of_cell? _ _ hx145_0; first | rwa [add_block] at this | exact this) GW143.out)
                  have hn145_1 : ad142.block ≠ gb143 := Nat.ne_of_lt (Nat.lt_of_lt_of_le (by have := World.block_lt_of_cell? _ _ hx145_0; first | rwa [add_block] at this | exact this) GW143.out)
                  have hn145_2 : ad142.block ≠ gb143 := Nat.ne_of_lt (Nat.lt_of_lt_of_le (by have := World.block_lt_of_cell? _ _ hx145_0; first | rwa [add_block] at this | exact this) GW143.out)
                  replace hx145_0 := (HB.out.cell (World.block_lt_of_cell? w _ hx145_0)).trans hx145_0
                  replace hx145_1 := (HB.out.cell (World.block_lt_of_cell? w _ hx145_1)).trans hx145_1
                  replace hx145_2 := (HB.out.cell (World.block_lt_of_cell? w _ hx145_2)).trans hx145_2
                  replace hx145_0 := (cell_far (p := ⟨gb143, 0, none⟩) (by first | (rw [add_block]; exact hn145_0) | (show (Addr.add _ _).block ≠ _; rw [add_block]; exact hn145_0) | exact hn145_0) (.int .i64 ((rd_T64 l1 a2).f0))).trans hx145_0
                  replace hx145_1 := (cell_far (p := ⟨gb143, 0, none⟩) (by first | (rw [add_block]; exact hn145_0) | (show (Addr.add _ _).block ≠ _; rw [add_block]; exact hn145_0) | exact hn145_0) (.int .i64 ((rd_T64 l1 a2).f0))).trans hx145_1
                  replace hx145_2 := (cell_far (p := ⟨gb143, 0, none⟩) (by first | (rw [add_block]; exact hn145_0) | (show (Addr.add _ _).block ≠ _; rw [add_block]; exact hn145_0) | exact hn145_0) (.int .i64 ((rd_T64 l1 a2).f0))).trans hx145_2
                  replace hx145_0 := (cell_far (p := ⟨gb143, 1, none⟩) (by first | (rw [add_block]; exact hn145_1) | (show (Addr.add _ _).block ≠ _; rw [add_block]; exact hn145_1) | exact hn145_1) (.int .i64 ((rd_T64 l1 a2).f1))).trans hx145_0
                  replace hx145_1 := (cell_far (p := ⟨gb143, 1, none⟩) (by first | (rw [add_block]; exact hn145_1) | (show (Addr.add _ _).block ≠ _; rw [add_block]; exact hn145_1) | exact hn145_1) (.int .i64 ((rd_T64 l1 a2).f1))).trans hx145_1
                  replace hx145_2 := (cell_far (p := ⟨gb143, 1, none⟩) (by first | (rw [add_block]; exact hn145_1) | (show (Addr.add _ _).block ≠ _; rw [add_block]; exact hn145_1) | exact hn145_1) (.int .i64 ((rd_T64 l1 a2).f1))).trans hx145_2
                  replace hx145_0 := (cell_far (p := ⟨gb143, 2, none⟩) (by first | (rw [add_block]; exact hn145_2) | (show (Addr.add _ _).block ≠ _; rw [add_block]; exact hn145_2) | exact hn145_2) (.string ((rd_T64 l1 a2).f2))).trans hx145_0
                  replace hx145_1 := (cell_far (p := ⟨gb143, 2, none⟩) (by first | (rw [add_block]; exact hn145_2) | (show (Addr.add _ _).block ≠ _; rw [add_block]; exact hn145_2) | exact hn145_2) (.string ((rd_T64 l1 a2).f2))).trans hx145_1
                  replace hx145_2 := (cell_far (p := ⟨gb143, 2, none⟩) (by first | (rw [add_block]; exact hn145_2) | (show (Addr.add _ _).block ≠ _; rw [add_block]; exact hn145_2) | exact hn145_2) (.string ((rd_T64 l1 a2).f2))).trans hx145_2
                  (try have hy145_0 := fun (n_ : Nat) => (show (((((w7.drewN n_).setCell ⟨gb143, 0, none⟩ (.int .i64 ((rd_T64 l1 a2).f0))).setCell ⟨gb143, 1, none⟩ (.int .i64 ((rd_T64 l1 a2).f1))).setCell ⟨gb143, 2, none⟩ (.string ((rd_T64 l1 a2).f2)))).cell? _ = some _ from hx145_0))
                  (try have hy145_1 := fun (n_ : Nat) => (show (((((w7.drewN n_).setCell ⟨gb143, 0, none⟩ (.int .i64 ((rd_T64 l1 a2).f0))).setCell ⟨gb143, 1, none⟩ (.int .i64 ((rd_T64 l1 a2).f1))).setCell ⟨gb143, 2, none⟩ (.string ((rd_T64 l1 a2).f2)))).cell? _ = some _ from hx145_1))
                  (try have hy145_2 := fun (n_ : Nat) => (show (((((w7.drewN n_).setCell ⟨gb143, 0, none⟩ (.int .i64 ((rd_T64 l1 a2).f0))).setCell ⟨gb143, 1, none⟩ (.int .i64 ((rd_T64 l1 a2).f1))).setCell ⟨gb143, 2, none⟩ (.string ((rd_T64 l1 a2).f2)))).cell? _ = some _ from hx145_2))
                  clear hn145_0
                  clear hn145_1
                  clear hn145_2
                  replace p145 := eq_true p145
                  replace q145 := eq_true q145
                  go_wp2
                  repeat (go_quiet (fail); try go_wp2)
                  go_meet
                  case rel => exact ⟨_, ((((rd_T64 l1 a2).f0) == ((rd_T64 l1 (ji12)).f0))), (by first | rfl | (simp; done) | (simp only [← hji12] <;> (first | rfl | simp)) | (simp [*]; done)), H', ⟨by first | omega | exact Nat.le_refl _⟩, ⟨by (with_reducible repeat (first | refine blk_drewN ?_ _ | refine blk_drew ?_ | refine blk_alloc ?_ _)); refine blk_put (cs := #[.int .i64 ((rd_T64 l1 a2).f0), .int .i64 ((rd_T64 l1 a2).f1), .string (⟨#[]⟩ : ByteArray)]) ?_ 2 _ rfl; (with_reducible repeat (first | refine blk_drewN ?_ _ | refine blk_drew ?_ | refine blk_alloc ?_ _)); refine blk_put (cs := #[.int .i64 ((rd_T64 l1 a2).f0), .int .i64 0, .string (⟨#[]⟩ : ByteArray)]) ?_ 1 _ rfl; (with_reducible repeat (first | refine blk_drewN ?_ _ | refine blk_drew ?_ | refine blk_alloc ?_ _)); refine blk_put (cs := #[.int .i64 0, .int .i64 0, .string (⟨#[]⟩ : ByteArray)]) ?_ 0 _ rfl; (with_reducible repeat (first | refine blk_drewN ?_ _ | refine blk_drew ?_ | refine blk_alloc ?_ _)); exact BK143.out⟩, ⟨by repeat (first | (with_reducible first | exact HB.out | apply below_alloc | apply pw_below_drewN | apply below_drew1 | refine below_set ?_ GE143.out) | exact HB.out)⟩⟩
              · rw [if_neg c14] at H
                exact absurd H (by simp)
            · rw [if_neg c13] at H
              exact absurd H (by simp)
          · rw [if_neg c11] at H
            have c11b0 : decide (0 < a2) = false := decide_eq_false c11
            clear c11
            have H' := Aside0.mk H
            clear H
            have hcz18_0 : w7.cell? ⟨gb143, 0, none⟩ = some (.int .i64 0) := (blk_cell BK143.out 0).trans rfl
            have hcz18_1 : w7.cell? ⟨gb143, 1, none⟩ = some (.int .i64 0) := (blk_cell BK143.out 1).trans rfl
            have hcz18_2 : w7.cell? ⟨gb143, 2, none⟩ = some (.string (⟨#[]⟩ : ByteArray)) := (blk_cell BK143.out 2).trans rfl
            have hfz18_0 := blk_frozen BK143.out 0
            have hfz18_1 := blk_frozen BK143.out 1
            have hfz18_2 := blk_frozen BK143.out 2
            go_wp2
            repeat (go_quiet (fail); try go_wp2)
            go_meet
            case rel => exact ⟨_, (false), (by first | rfl | (simp; done) | (simp [*]; done)), H', ⟨by first | omega | exact Nat.le_refl _⟩, ⟨by (with_reducible repeat (first | refine blk_drewN ?_ _ | refine blk_drew ?_ | refine blk_alloc ?_ _)); refine blk_put (cs := #[.int .i64 ((rd_T64 l1 a2).f0), .int .i64 ((rd_T64 l1 a2).f1), .string (⟨#[]⟩ : ByteArray)]) ?_ 2 _ rfl; (with_reducible repeat (first | refine blk_drewN ?_ _ | refine blk_drew ?_ | refine blk_alloc ?_ _)); refine blk_put (cs := #[.int .i64 ((rd_T64 l1 a2).f0), .int .i64 0, .string (⟨#[]⟩ : ByteArray)]) ?_ 1 _ rfl; (with_reducible repeat (first | refine blk_drewN ?_ _ | refine blk_drew ?_ | refine blk_alloc ?_ _)); refine blk_put (cs := #[.int .i64 0, .int .i64 0, .string (⟨#[]⟩ : ByteArray)]) ?_ 0 _ rfl; (with_reducible repeat (first | refine blk_drewN ?_ _ | refine blk_drew ?_ | refine blk_alloc ?_ _)); exact BK143.out⟩, ⟨by repeat (first | (with_reducible first | exact HB.out | apply below_alloc | apply pw_below_drewN | apply below_drew1 | refine below_set ?_ GE143.out) | exact HB.out)⟩⟩
      case rest =>
        clear HC6
        try clear c1
        try clear p1
        try clear q1
        try clear hx1
        try clear p2
        try clear c4
        try clear c4b0
        try clear c5
        try clear c5b0
        try clear p6
        try clear c9
        try clear c9b0
        try clear c11
        try clear c11b0
        try clear c13
        try clear c13b0
        try clear c14
        try clear c14b0
        try clear p14
        try clear q14
        try clear hx14
        try clear c15
        try clear c15b0
        try clear hcz10_0
        try clear hcz10_1
        try clear hcz10_2
        try clear hcz16_0
        try clear hcz16_1
        try clear hcz16_2
        try clear hcz17_0
        try clear hcz17_1
        try clear hcz17_2
        try clear hcz18_0
        try clear hcz18_1
        try clear hcz18_2
        try clear hcz8_0
        try clear hcz8_1
        try clear hcz8_2
        try clear hfz10_0
        try clear hfz10_1
        try clear hfz10_2
        try clear hfz16_0
        try clear hfz16_1
        try clear hfz16_2
        try clear hfz17_0
        try clear hfz17_1
        try clear hfz17_2
        try clear hfz18_0
        try clear hfz18_1
        try clear hfz18_2
        try clear hfz8_0
        try clear hfz8_1
        try clear hfz8_2
        try clear hx142_0
        try clear hx142_1
        try clear hx142_2
        try clear hx144_0
        try clear hx144_1
        try clear hx144_2
        try clear hx145_0
        try clear hx145_1
        try clear hx145_2
        try clear p142
        try clear p144
        try clear p145
        try clear q142
        try clear q144
        try clear q145
        obtain ⟨kq, x12_5, rfl, HA, HJ5, BK143, HB⟩ := hcut
        cases kq with
        | zero => exact absurd HA.out (by simp [edit_one.j0])
        | succ kj5 =>
          have H := HA.out
          clear HA
          simp only [edit_one.j0] at H
          by_cases c19 : x12_5 = true
          · subst c19
            have H1 : (some (some (Er.no 5))) = some r := by rw [if_pos rfl] at H; exact H
            clear H
            have H := H1
            clear H1
            obtain rfl := Option.some.inj H
            go_wp2
            repeat (go_quiet (fail); try go_wp2)
            go_ret
            exact ⟨by first | rfl | (simp [errW_none, errW_some, erT_no, erV_no, erT_at, erV_at] <;> rfl) | (simp [*, errW_none, errW_some, erT_no, erV_no, erT_at, erV_at] <;> rfl), by repeat (first | (with_reducible first | exact HB.out | apply below_alloc | apply pw_below_drewN | apply below_drew1 | refine below_set ?_ GE143.out) | exact HB.out)⟩
          · replace c19 := Bool.eq_false_iff.mpr c19
            subst c19
            have H1 : ((utf_Boundary.f l0 ((rd_T64 l1 a2).f0)).bind fun t146 => (if t146 = true then ((utf_Boundary.f l0 ((rd_T64 l1 a2).f1)).bind fun t147 => (edit_one.j1 kj5 (!t147) ((rd_T64 l1 a2).f0) ((rd_T64 l1 a2).f1) ((rd_T64 l1 a2).f2))) else (edit_one.j1 kj5 true ((rd_T64 l1 a2).f0) ((rd_T64 l1 a2).f1) ((rd_T64 l1 a2).f2)))) = some r := by rw [if_neg (show ¬ (false = true) by decide)] at H; exact H
            clear H
            have H := H1
            clear H1
            have HC20 := Aside0.mk H
            clear H
            go_upto_region 4 with (fail)
            repeat (go_quiet (fail); go_upto_region 4 with (fail))
            go_cut [45] (fun v45 wc => ∃ (kq : Nat) (x45_19 : Bool), v45 = .bool x45_19 ∧ Aside0 (edit_one.j1 kq x45_19 ((rd_T64 l1 a2).f0) ((rd_T64 l1 a2).f1) ((rd_T64 l1 a2).f2) = some r) ∧ Aside0 (kq ≤ kj5) ∧ Aside0 (wc.heap[gb143]? = some (.cells #[.int .i64 ((rd_T64 l1 a2).f0), .int .i64 ((rd_T64 l1 a2).f1), .string ((rd_T64 l1 a2).f2)] 64 (0, 0))) ∧ Aside0 (Below w.heap.size w wc))
            case first =>
              have H := HC20.out
              clear HC20
              replace H := Option.bind_eq_some_iff.mp H
              obtain ⟨t146, A210, H⟩ := H
              replace H : (if t146 = true then ((utf_Boundary.f l0 ((rd_T64 l1 a2).f1)).bind fun t147 => (edit_one.j1 kj5 (!t147) ((rd_T64 l1 a2).f0) ((rd_T64 l1 a2).f1) ((rd_T64 l1 a2).f2))) else (edit_one.j1 kj5 true ((rd_T64 l1 a2).f0) ((rd_T64 l1 a2).f1) ((rd_T64 l1 a2).f2))) = some r := H
              have A21 := Aside0.mk A210
              clear A210
              by_cases c22 : t146 = true
              · subst c22
                have H1 : ((utf_Boundary.f l0 ((rd_T64 l1 a2).f1)).bind fun t147 => (edit_one.j1 kj5 (!t147) ((rd_T64 l1 a2).f0) ((rd_T64 l1 a2).f1) ((rd_T64 l1 a2).f2))) = some r := by rw [if_pos rfl] at H; exact H
                clear H
                have H := H1
                clear H1
                replace H := Option.bind_eq_some_iff.mp H
                obtain ⟨t147, A230, H⟩ := H
                replace H : (edit_one.j1 kj5 (!t147) ((rd_T64 l1 a2).f0) ((rd_T64 l1 a2).f1) ((rd_T64 l1 a2).f2)) = some r := H
                have A23 := Aside0.mk A230
                clear A230
                have H' := Aside0.mk H
                clear H
                have hcz24_0 : wc.cell? ⟨gb143, 0, none⟩ = some (.int .i64 ((rd_T64 l1 a2).f0)) := (blk_cell BK143.out 0).trans rfl
                have hcz24_1 : wc.cell? ⟨gb143, 1, none⟩ = some (.int .i64 ((rd_T64 l1 a2).f1)) := (blk_cell BK143.out 1).trans rfl
                have hcz24_2 : wc.cell? ⟨gb143, 2, none⟩ = some (.string ((rd_T64 l1 a2).f2)) := (blk_cell BK143.out 2).trans rfl
                have hfz24_0 := blk_frozen BK143.out 0
                have hfz24_1 := blk_frozen BK143.out 1
                have hfz24_2 := blk_frozen BK143.out 2
                go_wp2_with (first | (go_at_call 54; (with_reducible refine (utf_Boundary.calls _ _ l0 ((rd_T64 l1 a2).f0) true _ ?side1 ?side2 A21.out).mono ?_); (case side1 => repeat (first | exact (Kd.C_below HR0.out HB.out) | (with_reducible refine Kd.C_alloc ?_ _) | (with_reducible refine Kd.C_drewN ?_ _) | (with_reducible refine Kd.C_drew ?_))); (case side2 => exact HC0.out); rintro e w' ⟨rfl, ⟨nd, rfl⟩⟩; (try first | exact ⟨rfl, _, World.drewN_drewN _ _ _⟩ | exact ⟨rfl, _, Eq.trans (World.drewN_drewN _ _ _) (congrArg (World.drewN _) (Nat.add_assoc _ _ _))⟩)) | (go_at_call 54; (with_reducible refine (utf_Boundary.calls _ _ l0 ((rd_T64 l1 a2).f1) t147 _ ?side1 ?side2 A23.out).mono ?_); (case side1 => repeat (first | exact (Kd.C_below HR0.out (by repeat (first | (with_reducible first | exact HB.out | apply below_alloc | apply pw_below_drewN | apply below_drew1 | refine below_set ?_ GE143.out) | exact HB.out))) | (with_reducible refine Kd.C_alloc ?_ _) | (with_reducible refine Kd.C_drewN ?_ _) | (with_reducible refine Kd.C_drew ?_))); (case side2 => exact HC0.out); rintro e w' ⟨rfl, ⟨nd, rfl⟩⟩; (try first | exact ⟨rfl, _, World.drewN_drewN _ _ _⟩ | exact ⟨rfl, _, Eq.trans (World.drewN_drewN _ _ _) (congrArg (World.drewN _) (Nat.add_assoc _ _ _))⟩)))
                repeat (go_quiet (first | (go_at_call 54; (with_reducible refine (utf_Boundary.calls _ _ l0 ((rd_T64 l1 a2).f0) true _ ?side1 ?side2 A21.out).mono ?_); (case side1 => repeat (first | exact (Kd.C_below HR0.out HB.out) | (with_reducible refine Kd.C_alloc ?_ _) | (with_reducible refine Kd.C_drewN ?_ _) | (with_reducible refine Kd.C_drew ?_))); (case side2 => exact HC0.out); rintro e w' ⟨rfl, ⟨nd, rfl⟩⟩; (try first | exact ⟨rfl, _, World.drewN_drewN _ _ _⟩ | exact ⟨rfl, _, Eq.trans (World.drewN_drewN _ _ _) (congrArg (World.drewN _) (Nat.add_assoc _ _ _))⟩)) | (go_at_call 54; (with_reducible refine (utf_Boundary.calls _ _ l0 ((rd_T64 l1 a2).f1) t147 _ ?side1 ?side2 A23.out).mono ?_); (case side1 => repeat (first | exact (Kd.C_below HR0.out (by repeat (first | (with_reducible first | exact HB.out | apply below_alloc | apply pw_below_drewN | apply below_drew1 | refine below_set ?_ GE143.out) | exact HB.out))) | (with_reducible refine Kd.C_alloc ?_ _) | (with_reducible refine Kd.C_drewN ?_ _) | (with_reducible refine Kd.C_drew ?_))); (case side2 => exact HC0.out); rintro e w' ⟨rfl, ⟨nd, rfl⟩⟩; (try first | exact ⟨rfl, _, World.drewN_drewN _ _ _⟩ | exact ⟨rfl, _, Eq.trans (World.drewN_drewN _ _ _) (congrArg (World.drewN _) (Nat.add_assoc _ _ _))⟩))); try go_wp2_with (first | (go_at_call 54; (with_reducible refine (utf_Boundary.calls _ _ l0 ((rd_T64 l1 a2).f0) true _ ?side1 ?side2 A21.out).mono ?_); (case side1 => repeat (first | exact (Kd.C_below HR0.out HB.out) | (with_reducible refine Kd.C_alloc ?_ _) | (with_reducible refine Kd.C_drewN ?_ _) | (with_reducible refine Kd.C_drew ?_))); (case side2 => exact HC0.out); rintro e w' ⟨rfl, ⟨nd, rfl⟩⟩; (try first | exact ⟨rfl, _, World.drewN_drewN _ _ _⟩ | exact ⟨rfl, _, Eq.trans (World.drewN_drewN _ _ _) (congrArg (World.drewN _) (Nat.add_assoc _ _ _))⟩)) | (go_at_call 54; (with_reducible refine (utf_Boundary.calls _ _ l0 ((rd_T64 l1 a2).f1) t147 _ ?side1 ?side2 A23.out).mono ?_); (case side1 => repeat (first | exact (Kd.C_below HR0.out (by repeat (first | (with_reducible first | exact HB.out | apply below_alloc | apply pw_below_drewN | apply below_drew1 | refine below_set ?_ GE143.out) | exact HB.out))) | (with_reducible refine Kd.C_alloc ?_ _) | (with_reducible refine Kd.C_drewN ?_ _) | (with_reducible refine Kd.C_drew ?_))); (case side2 => exact HC0.out); rintro e w' ⟨rfl, ⟨nd, rfl⟩⟩; (try first | exact ⟨rfl, _, World.drewN_drewN _ _ _⟩ | exact ⟨rfl, _, Eq.trans (World.drewN_drewN _ _ _) (congrArg (World.drewN _) (Nat.add_assoc _ _ _))⟩))))
                go_meet
                case rel => exact ⟨_, (!t147), (by first | rfl | (simp; done) | (simp [*]; done)), H', ⟨by have := HJ5.out; first | omega | exact Nat.le_refl _⟩, ⟨by (with_reducible repeat (first | refine blk_drewN ?_ _ | refine blk_drew ?_ | refine blk_alloc ?_ _)); exact BK143.out⟩, ⟨by repeat (first | (with_reducible first | exact HB.out | apply below_alloc | apply pw_below_drewN | apply below_drew1 | refine below_set ?_ GE143.out) | exact HB.out)⟩⟩
              · replace c22 := Bool.eq_false_iff.mpr c22
                subst c22
                have H1 : (edit_one.j1 kj5 true ((rd_T64 l1 a2).f0) ((rd_T64 l1 a2).f1) ((rd_T64 l1 a2).f2)) = some r := by rw [if_neg (show ¬ (false = true) by decide)] at H; exact H
                clear H
                have H := H1
                clear H1
                have H' := Aside0.mk H
                clear H
                have hcz25_0 : wc.cell? ⟨gb143, 0, none⟩ = some (.int .i64 ((rd_T64 l1 a2).f0)) := (blk_cell BK143.out 0).trans rfl
                have hcz25_1 : wc.cell? ⟨gb143, 1, none⟩ = some (.int .i64 ((rd_T64 l1 a2).f1)) := (blk_cell BK143.out 1).trans rfl
                have hcz25_2 : wc.cell? ⟨gb143, 2, none⟩ = some (.string ((rd_T64 l1 a2).f2)) := (blk_cell BK143.out 2).trans rfl
                have hfz25_0 := blk_frozen BK143.out 0
                have hfz25_1 := blk_frozen BK143.out 1
                have hfz25_2 := blk_frozen BK143.out 2
                go_wp2_with (first | (go_at_call 54; (with_reducible refine (utf_Boundary.calls _ _ l0 ((rd_T64 l1 a2).f0) false _ ?side1 ?side2 A21.out).mono ?_); (case side1 => repeat (first | exact (Kd.C_below HR0.out HB.out) | (with_reducible refine Kd.C_alloc ?_ _) | (with_reducible refine Kd.C_drewN ?_ _) | (with_reducible refine Kd.C_drew ?_))); (case side2 => exact HC0.out); rintro e w' ⟨rfl, ⟨nd, rfl⟩⟩; (try first | exact ⟨rfl, _, World.drewN_drewN _ _ _⟩ | exact ⟨rfl, _, Eq.trans (World.drewN_drewN _ _ _) (congrArg (World.drewN _) (Nat.add_assoc _ _ _))⟩)))
                repeat (go_quiet (first | (go_at_call 54; (with_reducible refine (utf_Boundary.calls _ _ l0 ((rd_T64 l1 a2).f0) false _ ?side1 ?side2 A21.out).mono ?_); (case side1 => repeat (first | exact (Kd.C_below HR0.out HB.out) | (with_reducible refine Kd.C_alloc ?_ _) | (with_reducible refine Kd.C_drewN ?_ _) | (with_reducible refine Kd.C_drew ?_))); (case side2 => exact HC0.out); rintro e w' ⟨rfl, ⟨nd, rfl⟩⟩; (try first | exact ⟨rfl, _, World.drewN_drewN _ _ _⟩ | exact ⟨rfl, _, Eq.trans (World.drewN_drewN _ _ _) (congrArg (World.drewN _) (Nat.add_assoc _ _ _))⟩))); try go_wp2_with (first | (go_at_call 54; (with_reducible refine (utf_Boundary.calls _ _ l0 ((rd_T64 l1 a2).f0) false _ ?side1 ?side2 A21.out).mono ?_); (case side1 => repeat (first | exact (Kd.C_below HR0.out HB.out) | (with_reducible refine Kd.C_alloc ?_ _) | (with_reducible refine Kd.C_drewN ?_ _) | (with_reducible refine Kd.C_drew ?_))); (case side2 => exact HC0.out); rintro e w' ⟨rfl, ⟨nd, rfl⟩⟩; (try first | exact ⟨rfl, _, World.drewN_drewN _ _ _⟩ | exact ⟨rfl, _, Eq.trans (World.drewN_drewN _ _ _) (congrArg (World.drewN _) (Nat.add_assoc _ _ _))⟩))))
                go_meet
                case rel => exact ⟨_, (true), (by first | rfl | (simp; done) | (simp [*]; done)), H', ⟨by have := HJ5.out; first | omega | exact Nat.le_refl _⟩, ⟨by (with_reducible repeat (first | refine blk_drewN ?_ _ | refine blk_drew ?_ | refine blk_alloc ?_ _)); exact BK143.out⟩, ⟨by repeat (first | (with_reducible first | exact HB.out | apply below_alloc | apply pw_below_drewN | apply below_drew1 | refine below_set ?_ GE143.out) | exact HB.out)⟩⟩
            case rest =>
              clear HC20
              try clear c1
              try clear p1
              try clear q1
              try clear hx1
              try clear c2
              try clear p2
              try clear c4
              try clear c4b0
              try clear c5
              try clear c5b0
              try clear p6
              try clear c9
              try clear c9b0
              try clear c11
              try clear c11b0
              try clear c13
              try clear c13b0
              try clear c14
              try clear c14b0
              try clear p14
              try clear q14
              try clear hx14
              try clear c15
              try clear c15b0
              try clear c19
              try clear c22
              try clear hcz10_0
              try clear hcz10_1
              try clear hcz10_2
              try clear hcz16_0
              try clear hcz16_1
              try clear hcz16_2
              try clear hcz17_0
              try clear hcz17_1
              try clear hcz17_2
              try clear hcz18_0
              try clear hcz18_1
              try clear hcz18_2
              try clear hcz24_0
              try clear hcz24_1
              try clear hcz24_2
              try clear hcz25_0
              try clear hcz25_1
              try clear hcz25_2
              try clear hcz8_0
              try clear hcz8_1
              try clear hcz8_2
              try clear hfz10_0
              try clear hfz10_1
              try clear hfz10_2
              try clear hfz16_0
              try clear hfz16_1
              try clear hfz16_2
              try clear hfz17_0
              try clear hfz17_1
              try clear hfz17_2
              try clear hfz18_0
              try clear hfz18_1
              try clear hfz18_2
              try clear hfz24_0
              try clear hfz24_1
              try clear hfz24_2
              try clear hfz25_0
              try clear hfz25_1
              try clear hfz25_2
              try clear hfz8_0
              try clear hfz8_1
              try clear hfz8_2
              try clear hx142_0
              try clear hx142_1
              try clear hx142_2
              try clear hx144_0
              try clear hx144_1
              try clear hx144_2
              try clear hx145_0
              try clear hx145_1
              try clear hx145_2
              try clear p1
              try clear p14
              try clear p142
              try clear p144
              try clear p145
              try clear p2
              try clear p6
              try clear q1
              try clear q14
              try clear q142
              try clear q144
              try clear q145
              obtain ⟨kq, x45_19, rfl, HA, HJ19, BK143, HB⟩ := hcut
              cases kq with
              | zero => exact absurd HA.out (by simp [edit_one.j1])
              | succ kj19 =>
                have H := HA.out
                clear HA
                simp only [edit_one.j1] at H
                by_cases c26 : x45_19 = true
                · subst c26
                  have H1 : (some (some (Er.no 4))) = some r := by rw [if_pos rfl] at H; exact H
                  clear H
                  have H := H1
                  clear H1
                  obtain rfl := Option.some.inj H
                  go_wp2
                  repeat (go_quiet (fail); try go_wp2)
                  go_ret
                  exact ⟨by first | rfl | (simp [errW_none, errW_some, erT_no, erV_no, erT_at, erV_at] <;> rfl) | (simp [*, errW_none, errW_some, erT_no, erV_no, erT_at, erV_at] <;> rfl), by repeat (first | (with_reducible first | exact HB.out | apply below_alloc | apply pw_below_drewN | apply below_drew1 | refine below_set ?_ GE143.out) | exact HB.out)⟩
                · replace c26 := Bool.eq_false_iff.mpr c26
                  subst c26
                  have H1 : (if ((rd_T64 l1 a2).f2).size ≤ 9223372036854775807 then ((utf_Check.f kj19 (bytesOf ((rd_T64 l1 a2).f2))).bind fun t151 => (if t151.isNone = true then (some none) else (some (some (Er.no 3))))) else (none)) = some r := by rw [if_neg (show ¬ (false = true) by decide)] at H; exact H
                  clear H
                  have H := H1
                  clear H1
                  by_cases c27 : ((rd_T64 l1 a2).f2).size ≤ 9223372036854775807
                  · rw [if_pos c27] at H
                    have c27b0 := eq_true c27
                    have c27b1 : decide (((rd_T64 l1 a2).f2).size ≤ 9223372036854775807) = true := decide_eq_true c27
                    try have c27b2 : (9223372036854775807 < ((rd_T64 l1 a2).f2).size) = False := eq_false (Nat.not_lt.2 c27)
                    clear c27
                    obtain ⟨y148, hy148⟩ : ∃ y_ : List Int, y_ = (bytesOf ((rd_T64 l1 a2).f2)) := ⟨_, rfl⟩
                    replace H : ((utf_Check.f kj19 y148).bind fun t151 => (if t151.isNone = true then (some none) else (some (some (Er.no 3))))) = some r := by first | (rw [hy148]; with_reducible exact H) | (have H2_ := (Option.bind_some _ _).symm.trans H; rw [hy148]; with_reducible exact H2_) | (have H2_ := (Option.bind_some _ _).symm.trans H; with_reducible exact H2_) | with_reducible exact H | (rw [hy148]; exact H) | exact H
                    have Ny148 := Aside0.mk hy148
                    clear hy148
                    replace H := Option.bind_eq_some_iff.mp H
                    obtain ⟨t151, A280, H⟩ := H
                    replace H : (if t151.isNone = true then (some none) else (some (some (Er.no 3)))) = some r := H
                    have A28 := Aside0.mk A280
                    clear A280
                    rcases t151 with _ | q152
                    · have H1 : (some none) = some r := by rw [if_pos (show (none : Option Er).isNone = true by rfl)] at H; exact H
                      clear H
                      have H := H1
                      clear H1
                      try simp only [errW_none, errW_some, erT_no, erV_no, erT_at, erV_at]
                      obtain rfl := Option.some.inj H
                      have hcz29_0 : wc.cell? ⟨gb143, 0, none⟩ = some (.int .i64 ((rd_T64 l1 a2).f0)) := (blk_cell BK143.out 0).trans rfl
                      have hcz29_1 : wc.cell? ⟨gb143, 1, none⟩ = some (.int .i64 ((rd_T64 l1 a2).f1)) := (blk_cell BK143.out 1).trans rfl
                      have hcz29_2 : wc.cell? ⟨gb143, 2, none⟩ = some (.string ((rd_T64 l1 a2).f2)) := (blk_cell BK143.out 2).trans rfl
                      have hfz29_0 := blk_frozen BK143.out 0
                      have hfz29_1 := blk_frozen BK143.out 1
                      have hfz29_2 := blk_frozen BK143.out 2
                      go_wp2_with (first | ((with_reducible refine gate_dst (N := 62) rfl ?_); refine Kd.V_make _ 5 rfl (N := 62) rfl 9 22 _ rfl ((rd_T64 l1 a2).f2) rfl Try.underlying9 Try.underlying22 Try.underlying5 (of_decide_eq_true (by first | (with_reducible assumption) | assumption)) (Below.refl _ _) (Nat.le_refl _) ?_; intro v149 w30 ho31 hb hg_ hnew_; clear hg_ hnew_; (first | rw [← Ny148.out] at ho31 | (simp only [Int.reduceToNat] at ho31; rw [← Ny148.out] at ho31)); have n0_ := Aside0.mk (Kd.V_lower (Kd.V_mono (ok' := fun k_ => k_ ≠ gb143) ho31 (fun k_ hk_ => (Kd.freshB (g := gb143) (o := .cells #[.int .i64 ((rd_T64 l1 a2).f0), .int .i64 ((rd_T64 l1 a2).f1), .string ((rd_T64 l1 a2).f2)] 64 (0, 0)) (by (with_reducible repeat (first | refine blk_drewN ?_ _ | refine blk_drew ?_ | refine blk_alloc ?_ _)); exact BK143.out) k_ hk_))) (below_size (by repeat (first | (with_reducible first | exact HB.out | apply below_alloc | apply pw_below_drewN | apply below_drew1 | refine below_set ?_ GE143.out) | exact HB.out)))); have n1_ := Aside0.mk (blk_below (g := gb143) (o := .cells #[.int .i64 ((rd_T64 l1 a2).f0), .int .i64 ((rd_T64 l1 a2).f1), .string ((rd_T64 l1 a2).f2)] 64 (0, 0)) (by (with_reducible repeat (first | refine blk_drewN ?_ _ | refine blk_drew ?_ | refine blk_alloc ?_ _)); exact BK143.out) hb); have n2_ := Aside0.mk (below_step (by repeat (first | (with_reducible first | exact HB.out | apply below_alloc | apply pw_below_drewN | apply below_drew1 | refine below_set ?_ GE143.out) | exact HB.out)) hb); clear BK143; clear HB; have HO150 := n0_; have BK143 := n1_; have HB := n2_; clear n0_ n1_ n2_; clear hb ho31; obtain ⟨Ao32, co32, eo32⟩ := Kd.V_slice HO150.out; subst eo32) | (go_at_call 55; (with_reducible refine (utf_Check.calls kj19 _ _ y148 none _ ?side1 ?side2 A28.out).mono ?_); (case side1 => repeat (first | exact (Kd.V_reads' HO150.out).2.2 | (with_reducible refine Kd.C_alloc ?_ _) | (with_reducible refine Kd.C_drewN ?_ _) | (with_reducible refine Kd.C_drew ?_))); (case side2 => exact (Kd.V_reads' HO150.out).2.1); rintro e w' ⟨rfl, ⟨nd, rfl⟩⟩; (try simp only [errW_none, errW_some, erT_no, erV_no, erT_at, erV_at]); (try first | exact ⟨rfl, _, World.drewN_drewN _ _ _⟩ | exact ⟨rfl, _, Eq.trans (World.drewN_drewN _ _ _) (congrArg (World.drewN _) (Nat.add_assoc _ _ _))⟩)))
                      repeat (go_quiet (first | ((with_reducible refine gate_dst (N := 62) rfl ?_); refine Kd.V_make _ 5 rfl (N := 62) rfl 9 22 _ rfl ((rd_T64 l1 a2).f2) rfl Try.underlying9 Try.underlying22 Try.underlying5 (of_decide_eq_true (by first | (with_reducible assumption) | assumption)) (Below.refl _ _) (Nat.le_refl _) ?_; intro v149 w30 ho31 hb hg_ hnew_; clear hg_ hnew_; (first | rw [← Ny148.out] at ho31 | (simp only [Int.reduceToNat] at ho31; rw [← Ny148.out] at ho31)); have n0_ := Aside0.mk (Kd.V_lower (Kd.V_mono (ok' := fun k_ => k_ ≠ gb143) ho31 (fun k_ hk_ => (Kd.freshB (g := gb143) (o := .cells #[.int .i64 ((rd_T64 l1 a2).f0), .int .i64 ((rd_T64 l1 a2).f1), .string ((rd_T64 l1 a2).f2)] 64 (0, 0)) (by (with_reducible repeat (first | refine blk_drewN ?_ _ | refine blk_drew ?_ | refine blk_alloc ?_ _)); exact BK143.out) k_ hk_))) (below_size (by repeat (first | (with_reducible first | exact HB.out | apply below_alloc | apply pw_below_drewN | apply below_drew1 | refine below_set ?_ GE143.out) | exact HB.out)))); have n1_ := Aside0.mk (blk_below (g := gb143) (o := .cells #[.int .i64 ((rd_T64 l1 a2).f0), .int .i64 ((rd_T64 l1 a2).f1), .string ((rd_T64 l1 a2).f2)] 64 (0, 0)) (by (with_reducible repeat (first | refine blk_drewN ?_ _ | refine blk_drew ?_ | refine blk_alloc ?_ _)); exact BK143.out) hb); have n2_ := Aside0.mk (below_step (by repeat (first | (with_reducible first | exact HB.out | apply below_alloc | apply pw_below_drewN | apply below_drew1 | refine below_set ?_ GE143.out) | exact HB.out)) hb); clear BK143; clear HB; have HO150 := n0_; have BK143 := n1_; have HB := n2_; clear n0_ n1_ n2_; clear hb ho31; obtain ⟨Ao32, co32, eo32⟩ := Kd.V_slice HO150.out; subst eo32) | (go_at_call 55; (with_reducible refine (utf_Check.calls kj19 _ _ y148 none _ ?side1 ?side2 A28.out).mono ?_); (case side1 => repeat (first | exact (Kd.V_reads' HO150.out).2.2 | (with_reducible refine Kd.C_alloc ?_ _) | (with_reducible refine Kd.C_drewN ?_ _) | (with_reducible refine Kd.C_drew ?_))); (case side2 => exact (Kd.V_reads' HO150.out).2.1); rintro e w' ⟨rfl, ⟨nd, rfl⟩⟩; (try simp only [errW_none, errW_some, erT_no, erV_no, erT_at, erV_at]); (try first | exact ⟨rfl, _, World.drewN_drewN _ _ _⟩ | exact ⟨rfl, _, Eq.trans (World.drewN_drewN _ _ _) (congrArg (World.drewN _) (Nat.add_assoc _ _ _))⟩))); try go_wp2_with (first | ((with_reducible refine gate_dst (N := 62) rfl ?_); refine Kd.V_make _ 5 rfl (N := 62) rfl 9 22 _ rfl ((rd_T64 l1 a2).f2) rfl Try.underlying9 Try.underlying22 Try.underlying5 (of_decide_eq_true (by first | (with_reducible assumption) | assumption)) (Below.refl _ _) (Nat.le_refl _) ?_; intro v149 w30 ho31 hb hg_ hnew_; clear hg_ hnew_; (first | rw [← Ny148.out] at ho31 | (simp only [Int.reduceToNat] at ho31; rw [← Ny148.out] at ho31)); have n0_ := Aside0.mk (Kd.V_lower (Kd.V_mono (ok' := fun k_ => k_ ≠ gb143) ho31 (fun k_ hk_ => (Kd.freshB (g := gb143) (o := .cells #[.int .i64 ((rd_T64 l1 a2).f0), .int .i64 ((rd_T64 l1 a2).f1), .string ((rd_T64 l1 a2).f2)] 64 (0, 0)) (by (with_reducible repeat (first | refine blk_drewN ?_ _ | refine blk_drew ?_ | refine blk_alloc ?_ _)); exact BK143.out) k_ hk_))) (below_size (by repeat (first | (with_reducible first | exact HB.out | apply below_alloc | apply pw_below_drewN | apply below_drew1 | refine below_set ?_ GE143.out) | exact HB.out)))); have n1_ := Aside0.mk (blk_below (g := gb143) (o := .cells #[.int .i64 ((rd_T64 l1 a2).f0), .int .i64 ((rd_T64 l1 a2).f1), .string ((rd_T64 l1 a2).f2)] 64 (0, 0)) (by (with_reducible repeat (first | refine blk_drewN ?_ _ | refine blk_drew ?_ | refine blk_alloc ?_ _)); exact BK143.out) hb); have n2_ := Aside0.mk (below_step (by repeat (first | (with_reducible first | exact HB.out | apply below_alloc | apply pw_below_drewN | apply below_drew1 | refine below_set ?_ GE143.out) | exact HB.out)) hb); clear BK143; clear HB; have HO150 := n0_; have BK143 := n1_; have HB := n2_; clear n0_ n1_ n2_; clear hb ho31; obtain ⟨Ao32, co32, eo32⟩ := Kd.V_slice HO150.out; subst eo32) | (go_at_call 55; (with_reducible refine (utf_Check.calls kj19 _ _ y148 none _ ?side1 ?side2 A28.out).mono ?_); (case side1 => repeat (first | exact (Kd.V_reads' HO150.out).2.2 | (with_reducible refine Kd.C_alloc ?_ _) | (with_reducible refine Kd.C_drewN ?_ _) | (with_reducible refine Kd.C_drew ?_))); (case side2 => exact (Kd.V_reads' HO150.out).2.1); rintro e w' ⟨rfl, ⟨nd, rfl⟩⟩; (try simp only [errW_none, errW_some, erT_no, erV_no, erT_at, erV_at]); (try first | exact ⟨rfl, _, World.drewN_drewN _ _ _⟩ | exact ⟨rfl, _, Eq.trans (World.drewN_drewN _ _ _) (congrArg (World.drewN _) (Nat.add_assoc _ _ _))⟩))))
                      go_ret
                      exact ⟨by first | rfl | (simp [errW_none, errW_some, erT_no, erV_no, erT_at, erV_at] <;> rfl) | (simp [*, errW_none, errW_some, erT_no, erV_no, erT_at, erV_at] <;> rfl), by repeat (first | (with_reducible first | exact HB.out | apply below_alloc | apply pw_below_drewN | apply below_drew1 | refine below_set ?_ GE143.out) | exact HB.out)⟩
                    · have H1 : (some (some (Er.no 3))) = some r := by rw [if_neg (show ¬ (some q152).isNone = true by simp)] at H; exact H
                      clear H
                      have H := H1
                      clear H1
                      try simp only [errW_none, errW_some, erT_no, erV_no, erT_at, erV_at]
                      obtain rfl := Option.some.inj H
                      have hcz33_0 : wc.cell? ⟨gb143, 0, none⟩ = some (.int .i64 ((rd_T64 l1 a2).f0)) := (blk_cell BK143.out 0).trans rfl
                      have hcz33_1 : wc.cell? ⟨gb143, 1, none⟩ = some (.int .i64 ((rd_T64 l1 a2).f1)) := (blk_cell BK143.out 1).trans rfl
                      have hcz33_2 : wc.cell? ⟨gb143, 2, none⟩ = some (.string ((rd_T64 l1 a2).f2)) := (blk_cell BK143.out 2).trans rfl
                      have hfz33_0 := blk_frozen BK143.out 0
                      have hfz33_1 := blk_frozen BK143.out 1
                      have hfz33_2 := blk_frozen BK143.out 2
                      go_wp2_with (first | ((with_reducible refine gate_dst (N := 62) rfl ?_); refine Kd.V_make _ 5 rfl (N := 62) rfl 9 22 _ rfl ((rd_T64 l1 a2).f2) rfl Try.underlying9 Try.underlying22 Try.underlying5 (of_decide_eq_true (by first | (with_reducible assumption) | assumption)) (Below.refl _ _) (Nat.le_refl _) ?_; intro v149 w34 ho35 hb hg_ hnew_; clear hg_ hnew_; (first | rw [← Ny148.out] at ho35 | (simp only [Int.reduceToNat] at ho35; rw [← Ny148.out] at ho35)); have n0_ := Aside0.mk (Kd.V_lower (Kd.V_mono (ok' := fun k_ => k_ ≠ gb143) ho35 (fun k_ hk_ => (Kd.freshB (g := gb143) (o := .cells #[.int .i64 ((rd_T64 l1 a2).f0), .int .i64 ((rd_T64 l1 a2).f1), .string ((rd_T64 l1 a2).f2)] 64 (0, 0)) (by (with_reducible repeat (first | refine blk_drewN ?_ _ | refine blk_drew ?_ | refine blk_alloc ?_ _)); exact BK143.out) k_ hk_))) (below_size (by repeat (first | (with_reducible first | exact HB.out | apply below_alloc | apply pw_below_drewN | apply below_drew1 | refine below_set ?_ GE143.out) | exact HB.out)))); have n1_ := Aside0.mk (blk_below (g := gb143) (o := .cells #[.int .i64 ((rd_T64 l1 a2).f0), .int .i64 ((rd_T64 l1 a2).f1), .string ((rd_T64 l1 a2).f2)] 64 (0, 0)) (by (with_reducible repeat (first | refine blk_drewN ?_ _ | refine blk_drew ?_ | refine blk_alloc ?_ _)); exact BK143.out) hb); have n2_ := Aside0.mk (below_step (by repeat (first | (with_reducible first | exact HB.out | apply below_alloc | apply pw_below_drewN | apply below_drew1 | refine below_set ?_ GE143.out) | exact HB.out)) hb); clear BK143; clear HB; have HO150 := n0_; have BK143 := n1_; have HB := n2_; clear n0_ n1_ n2_; clear hb ho35; obtain ⟨Ao36, co36, eo36⟩ := Kd.V_slice HO150.out; subst eo36) | (go_at_call 55; (with_reducible refine (utf_Check.calls kj19 _ _ y148 (some q152) _ ?side1 ?side2 A28.out).mono ?_); (case side1 => repeat (first | exact (Kd.V_reads' HO150.out).2.2 | (with_reducible refine Kd.C_alloc ?_ _) | (with_reducible refine Kd.C_drewN ?_ _) | (with_reducible refine Kd.C_drew ?_))); (case side2 => exact (Kd.V_reads' HO150.out).2.1); rintro e w' ⟨rfl, ⟨nd, rfl⟩⟩; (try simp only [errW_none, errW_some, erT_no, erV_no, erT_at, erV_at]); (try first | exact ⟨rfl, _, World.drewN_drewN _ _ _⟩ | exact ⟨rfl, _, Eq.trans (World.drewN_drewN _ _ _) (congrArg (World.drewN _) (Nat.add_assoc _ _ _))⟩)))
                      repeat (go_quiet (first | ((with_reducible refine gate_dst (N := 62) rfl ?_); refine Kd.V_make _ 5 rfl (N := 62) rfl 9 22 _ rfl ((rd_T64 l1 a2).f2) rfl Try.underlying9 Try.underlying22 Try.underlying5 (of_decide_eq_true (by first | (with_reducible assumption) | assumption)) (Below.refl _ _) (Nat.le_refl _) ?_; intro v149 w34 ho35 hb hg_ hnew_; clear hg_ hnew_; (first | rw [← Ny148.out] at ho35 | (simp only [Int.reduceToNat] at ho35; rw [← Ny148.out] at ho35)); have n0_ := Aside0.mk (Kd.V_lower (Kd.V_mono (ok' := fun k_ => k_ ≠ gb143) ho35 (fun k_ hk_ => (Kd.freshB (g := gb143) (o := .cells #[.int .i64 ((rd_T64 l1 a2).f0), .int .i64 ((rd_T64 l1 a2).f1), .string ((rd_T64 l1 a2).f2)] 64 (0, 0)) (by (with_reducible repeat (first | refine blk_drewN ?_ _ | refine blk_drew ?_ | refine blk_alloc ?_ _)); exact BK143.out) k_ hk_))) (below_size (by repeat (first | (with_reducible first | exact HB.out | apply below_alloc | apply pw_below_drewN | apply below_drew1 | refine below_set ?_ GE143.out) | exact HB.out)))); have n1_ := Aside0.mk (blk_below (g := gb143) (o := .cells #[.int .i64 ((rd_T64 l1 a2).f0), .int .i64 ((rd_T64 l1 a2).f1), .string ((rd_T64 l1 a2).f2)] 64 (0, 0)) (by (with_reducible repeat (first | refine blk_drewN ?_ _ | refine blk_drew ?_ | refine blk_alloc ?_ _)); exact BK143.out) hb); have n2_ := Aside0.mk (below_step (by repeat (first | (with_reducible first | exact HB.out | apply below_alloc | apply pw_below_drewN | apply below_drew1 | refine below_set ?_ GE143.out) | exact HB.out)) hb); clear BK143; clear HB; have HO150 := n0_; have BK143 := n1_; have HB := n2_; clear n0_ n1_ n2_; clear hb ho35; obtain ⟨Ao36, co36, eo36⟩ := Kd.V_slice HO150.out; subst eo36) | (go_at_call 55; (with_reducible refine (utf_Check.calls kj19 _ _ y148 (some q152) _ ?side1 ?side2 A28.out).mono ?_); (case side1 => repeat (first | exact (Kd.V_reads' HO150.out).2.2 | (with_reducible refine Kd.C_alloc ?_ _) | (with_reducible refine Kd.C_drewN ?_ _) | (with_reducible refine Kd.C_drew ?_))); (case side2 => exact (Kd.V_reads' HO150.out).2.1); rintro e w' ⟨rfl, ⟨nd, rfl⟩⟩; (try simp only [errW_none, errW_some, erT_no, erV_no, erT_at, erV_at]); (try first | exact ⟨rfl, _, World.drewN_drewN _ _ _⟩ | exact ⟨rfl, _, Eq.trans (World.drewN_drewN _ _ _) (congrArg (World.drewN _) (Nat.add_assoc _ _ _))⟩))); try go_wp2_with (first | ((with_reducible refine gate_dst (N := 62) rfl ?_); refine Kd.V_make _ 5 rfl (N := 62) rfl 9 22 _ rfl ((rd_T64 l1 a2).f2) rfl Try.underlying9 Try.underlying22 Try.underlying5 (of_decide_eq_true (by first | (with_reducible assumption) | assumption)) (Below.refl _ _) (Nat.le_refl _) ?_; intro v149 w34 ho35 hb hg_ hnew_; clear hg_ hnew_; (first | rw [← Ny148.out] at ho35 | (simp only [Int.reduceToNat] at ho35; rw [← Ny148.out] at ho35)); have n0_ := Aside0.mk (Kd.V_lower (Kd.V_mono (ok' := fun k_ => k_ ≠ gb143) ho35 (fun k_ hk_ => (Kd.freshB (g := gb143) (o := .cells #[.int .i64 ((rd_T64 l1 a2).f0), .int .i64 ((rd_T64 l1 a2).f1), .string ((rd_T64 l1 a2).f2)] 64 (0, 0)) (by (with_reducible repeat (first | refine blk_drewN ?_ _ | refine blk_drew ?_ | refine blk_alloc ?_ _)); exact BK143.out) k_ hk_))) (below_size (by repeat (first | (with_reducible first | exact HB.out | apply below_alloc | apply pw_below_drewN | apply below_drew1 | refine below_set ?_ GE143.out) | exact HB.out)))); have n1_ := Aside0.mk (blk_below (g := gb143) (o := .cells #[.int .i64 ((rd_T64 l1 a2).f0), .int .i64 ((rd_T64 l1 a2).f1), .string ((rd_T64 l1 a2).f2)] 64 (0, 0)) (by (with_reducible repeat (first | refine blk_drewN ?_ _ | refine blk_drew ?_ | refine blk_alloc ?_ _)); exact BK143.out) hb); have n2_ := Aside0.mk (below_step (by repeat (first | (with_reducible first | exact HB.out | apply below_alloc | apply pw_below_drewN | apply below_drew1 | refine below_set ?_ GE143.out) | exact HB.out)) hb); clear BK143; clear HB; have HO150 := n0_; have BK143 := n1_; have HB := n2_; clear n0_ n1_ n2_; clear hb ho35; obtain ⟨Ao36, co36, eo36⟩ := Kd.V_slice HO150.out; subst eo36) | (go_at_call 55; (with_reducible refine (utf_Check.calls kj19 _ _ y148 (some q152) _ ?side1 ?side2 A28.out).mono ?_); (case side1 => repeat (first | exact (Kd.V_reads' HO150.out).2.2 | (with_reducible refine Kd.C_alloc ?_ _) | (with_reducible refine Kd.C_drewN ?_ _) | (with_reducible refine Kd.C_drew ?_))); (case side2 => exact (Kd.V_reads' HO150.out).2.1); rintro e w' ⟨rfl, ⟨nd, rfl⟩⟩; (try simp only [errW_none, errW_some, erT_no, erV_no, erT_at, erV_at]); (try first | exact ⟨rfl, _, World.drewN_drewN _ _ _⟩ | exact ⟨rfl, _, Eq.trans (World.drewN_drewN _ _ _) (congrArg (World.drewN _) (Nat.add_assoc _ _ _))⟩))))
                      go_ret
                      exact ⟨by first | rfl | (simp [errW_none, errW_some, erT_no, erV_no, erT_at, erV_at] <;> rfl) | (simp [*, errW_none, errW_some, erT_no, erV_no, erT_at, erV_at] <;> rfl), by repeat (first | (with_reducible first | exact HB.out | apply below_alloc | apply pw_below_drewN | apply below_drew1 | refine below_set ?_ GE143.out) | exact HB.out)⟩
                  · rw [if_neg c27] at H
                    exact absurd H (by simp)
    · rw [if_neg c5] at H
      exact absurd H (by simp)
  · rw [if_neg c4] at H
    exact absurd H (by simp)

/-! ### edit_Check: function 42 -/
def edit_Check.l0 : Nat → List Int → List (S64) → Int → Int → Option (Option Er)
  | 0, _, _, _, _ => none
  | k + 1, x0, x1, x12, x13 => if x13 < x12 then ((edit_one.f k x0 x1 x13).bind fun t153 => (if t153.isNone = true then (edit_Check.l0 k x0 x1 x12 (wrap64 (x13 + 1))) else (some (some (Er.at_ x13 (t153.getD (Er.no 0))))))) else (some none)
def edit_Check.f (k : Nat) (l0 : List Int) (l1 : List (S64)) : Option (Option Er) := if (l1.length : Int) > 1000 then (some (some (Er.no 2))) else (edit_Check.l0 k l0 l1 (l1.length : Int) 0)
theorem edit_Check.mono_l : ∀ k, (∀ y0 y1 y2 y3, LeO (edit_Check.l0 k y0 y1 y2 y3) (edit_Check.l0 (k + 1) y0 y1 y2 y3))
  | 0 => fun _ _ _ _ r h => by simp [edit_Check.l0] at h
  | k + 1 => by
    have ih0 := edit_Check.mono_l k
    · intro y0 y1 y2 y3
      unfold edit_Check.l0
      repeat' first
      | (with_reducible exact ih0 _ _ _ _)
      | (with_reducible exact edit_one.mono _ _ _ _)
      | (with_reducible exact LeO.refl _)
      | (with_reducible exact LeO.none _)
      | (with_reducible refine LeO.ite ?_ ?_)
      | (with_reducible refine LeO.bind ?_ (fun _ => ?_))
      | exact ih0 _ _ _ _
      | exact edit_one.mono _ _ _ _
      | exact LeO.none _
      | refine LeO.ite ?_ ?_
      | refine LeO.bind ?_ (fun _ => ?_)
theorem edit_Check.mono : ∀ a0 a1 k, LeO (edit_Check.f k a0 a1) (edit_Check.f (k + 1) a0 a1) := by
  intro a0 a1 k
  have ih0 := edit_Check.mono_l k
  unfold edit_Check.f
  repeat' first
      | (with_reducible exact ih0 _ _ _ _)
      | (with_reducible exact edit_one.mono _ _ _ _)
      | (with_reducible exact LeO.refl _)
      | (with_reducible exact LeO.none _)
      | (with_reducible refine LeO.ite ?_ ?_)
      | (with_reducible refine LeO.bind ?_ (fun _ => ?_))
      | exact ih0 _ _ _ _
      | exact edit_one.mono _ _ _ _
      | exact LeO.none _
      | refine LeO.ite ?_ ?_
      | refine LeO.bind ?_ (fun _ => ?_)
set_option maxHeartbeats 8000000 in
set_option maxRecDepth 100000 in
theorem edit_Check.calls (k : Nat) (A0 : Option Addr) (c0 : Nat) (l0 : List Int) (A1 : Option Addr) (c1 : Nat) (l1 : List (S64)) (r : Option Er) (w : World) (hr0 : Kd.C (Kd.int .u8) w A0 l0.length l0) (hc0 : l0.length ≤ c0) (hr1 : Kd.C k64 w A1 l1.length l1) (hc1 : l1.length ≤ c1) (h : edit_Check.f k l0 l1 = some r) :
    Calls Try.prog 42 #[.slice A0 l0.length c0, .slice A1 l1.length c1] w fun e w' => e = .returned (errW r) ∧ Below w.heap.size w w' := by
  have hu32 := Try.underlying32
  have hu36 := Try.underlying36
  have HR0 := Aside0.mk hr0
  have HC0 := Aside0.mk hc0
  clear hr0 hc0
  have HR1 := Aside0.mk hr1
  have HC1 := Aside0.mk hc1
  clear hr1 hc1
  have HB := Aside0.mk (Below.refl w.heap.size w)
  have H : (if (l1.length : Int) > 1000 then (some (some (Er.no 2))) else (edit_Check.l0 k l0 l1 (l1.length : Int) 0)) = some r := h
  clear h
  by_cases c3 : (l1.length : Int) > 1000
  · rw [if_pos c3] at H
    have c3b0 : decide (1000 < (l1.length : Int)) = true := decide_eq_true c3
    have c3b1 : decide (1000 < l1.length) = true := decide_eq_true (by omega)
    clear c3
    obtain rfl := Option.some.inj H
    go_enter Try.func42, Try.ntmps42
    go_wp2
    go_ret
    exact ⟨by first | rfl | (simp [errW_none, errW_some, erT_no, erV_no, erT_at, erV_at] <;> rfl) | (simp [*, errW_none, errW_some, erT_no, erV_no, erT_at, erV_at] <;> rfl), by repeat (first | (with_reducible first | exact HB.out | apply below_alloc | apply pw_below_drewN | apply below_drew1) | exact HB.out)⟩
  · rw [if_neg c3] at H
    have c3b0 : decide (1000 < (l1.length : Int)) = false := decide_eq_false c3
    have c3b1 : decide (1000 < l1.length) = false := decide_eq_false (by omega)
    clear c3
    have H' := Aside0.mk H
    clear H
    go_enter Try.func42, Try.ntmps42
    go_wp2
    go_loopg [13] k (fun kq v13 w' => ∃ (x13_1 : Int), v13 = .int .i64 x13_1 ∧ Aside0 (edit_Check.l0 kq l0 l1 (l1.length : Int) x13_1 = some r) ∧ Aside0 (kq ≤ k) ∧ Aside0 (Below w.heap.size w w'))
    case atStart => exact ⟨(0), (by first | rfl | (simp; done) | (simp [*]; done)), H', ⟨Nat.le_refl _⟩, ⟨by repeat (first | (with_reducible first | exact HB.out | apply below_alloc | apply pw_below_drewN | apply below_drew1) | exact HB.out)⟩⟩
    case round =>
      clear H'
      try clear c1
      try clear p2
      try clear c3
      try clear c3b0
      try clear c3b1
      obtain ⟨x13_1, rfl, HA, HK1, HB⟩ := hrel
      cases gk with
      | zero => exact absurd HA.out (by simp [edit_Check.l0])
      | succ k1 =>
        have H := HA.out
        clear HA
        simp only [edit_Check.l0] at H
        by_cases c4 : x13_1 < (l1.length : Int)
        · rw [if_pos c4] at H
          have c4b0 : decide (x13_1 < (l1.length : Int)) = true := decide_eq_true c4
          clear c4
          replace H := Option.bind_eq_some_iff.mp H
          obtain ⟨t153, A50, H⟩ := H
          replace H : (if t153.isNone = true then (edit_Check.l0 k1 l0 l1 (l1.length : Int) (wrap64 (x13_1 + 1))) else (some (some (Er.at_ x13_1 (t153.getD (Er.no 0)))))) = some r := H
          have A5 := Aside0.mk A50
          clear A50
          rcases t153 with _ | q154
          · have H1 : (edit_Check.l0 k1 l0 l1 (l1.length : Int) (wrap64 (x13_1 + 1))) = some r := by rw [if_pos (show (none : Option Er).isNone = true by rfl)] at H; exact H
            clear H
            have H := H1
            clear H1
            try simp only [errW_none, errW_some, erT_no, erV_no, erT_at, erV_at]
            have H' := Aside0.mk H
            clear H
            go_wp2_with (first | ((with_reducible refine gate_callee (f := 51) rfl ?_); refine goesL_ (some 19) rfl rfl Try.func51 (by kernel_rfl) rfl #[.slice A0 l0.length c0, .slice A1 l1.length c1, .int .i64 x13_1] rfl (by (try simp only [List.map_toArray, List.map_cons, List.map_nil]); first | done | rfl | (simp only [List.length_drop, List.length_take]; rfl)) ?_; (with_reducible refine (edit_one.calls k1 _ _ l0 _ _ l1 x13_1 none _ ?side1 ?side2 ?side3 ?side4 A5.out).mono ?_); (case side1 => repeat (first | exact (Kd.C_below HR0.out HB.out) | (with_reducible refine Kd.C_alloc ?_ _) | (with_reducible refine Kd.C_drewN ?_ _) | (with_reducible refine Kd.C_drew ?_))); (case side2 => exact HC0.out); (case side3 => repeat (first | exact (Kd.C_below HR1.out HB.out) | (with_reducible refine Kd.C_alloc ?_ _) | (with_reducible refine Kd.C_drewN ?_ _) | (with_reducible refine Kd.C_drew ?_))); (case side4 => exact HC1.out); rintro e w6 ⟨rfl, hb⟩; refine ⟨_, rfl, ?_⟩; have n0_ := Aside0.mk (below_step (by repeat (first | (with_reducible first | exact HB.out | apply below_alloc | apply pw_below_drewN | apply below_drew1) | exact HB.out)) hb); clear HB; have HB := n0_; clear n0_; (try clear hb); (try clear hb2); (try clear hk); (try clear hi); (try simp only [errW_none, errW_some, erT_no, erV_no, erT_at, erV_at])))
            go_roundg k1
            case measure => have := HK1.out; omega
            case rel => exact ⟨(wrap64 (x13_1 + 1)), (by first | rfl | (simp; done) | (simp [*]; done)), H', ⟨by have := HK1.out; omega⟩, ⟨by repeat (first | (with_reducible first | exact HB.out | apply below_alloc | apply pw_below_drewN | apply below_drew1) | exact HB.out)⟩⟩
          · have H1 : (some (some (Er.at_ x13_1 q154))) = some r := by rw [if_neg (show ¬ (some q154).isNone = true by simp)] at H; exact H
            clear H
            have H := H1
            clear H1
            try simp only [errW_none, errW_some, erT_no, erV_no, erT_at, erV_at]
            obtain rfl := Option.some.inj H
            go_wp2_with (first | ((with_reducible refine gate_callee (f := 51) rfl ?_); refine goesL_ (some 19) rfl rfl Try.func51 (by kernel_rfl) rfl #[.slice A0 l0.length c0, .slice A1 l1.length c1, .int .i64 x13_1] rfl (by (try simp only [List.map_toArray, List.map_cons, List.map_nil]); first | done | rfl | (simp only [List.length_drop, List.length_take]; rfl)) ?_; (with_reducible refine (edit_one.calls k1 _ _ l0 _ _ l1 x13_1 (some q154) _ ?side1 ?side2 ?side3 ?side4 A5.out).mono ?_); (case side1 => repeat (first | exact (Kd.C_below HR0.out HB.out) | (with_reducible refine Kd.C_alloc ?_ _) | (with_reducible refine Kd.C_drewN ?_ _) | (with_reducible refine Kd.C_drew ?_))); (case side2 => exact HC0.out); (case side3 => repeat (first | exact (Kd.C_below HR1.out HB.out) | (with_reducible refine Kd.C_alloc ?_ _) | (with_reducible refine Kd.C_drewN ?_ _) | (with_reducible refine Kd.C_drew ?_))); (case side4 => exact HC1.out); rintro e w7 ⟨rfl, hb⟩; refine ⟨_, rfl, ?_⟩; have n0_ := Aside0.mk (below_step (by repeat (first | (with_reducible first | exact HB.out | apply below_alloc | apply pw_below_drewN | apply below_drew1) | exact HB.out)) hb); clear HB; have HB := n0_; clear n0_; (try clear hb); (try clear hb2); (try clear hk); (try clear hi); (try simp only [errW_none, errW_some, erT_no, erV_no, erT_at, erV_at])))
            go_ret
            exact ⟨by first | rfl | (simp [errW_none, errW_some, erT_no, erV_no, erT_at, erV_at] <;> rfl) | (simp [*, errW_none, errW_some, erT_no, erV_no, erT_at, erV_at] <;> rfl), by repeat (first | (with_reducible first | exact HB.out | apply below_alloc | apply pw_below_drewN | apply below_drew1) | exact HB.out)⟩
        · rw [if_neg c4] at H
          have c4b0 : decide (x13_1 < (l1.length : Int)) = false := decide_eq_false c4
          clear c4
          obtain rfl := Option.some.inj H
          go_wp2
          go_ret
          exact ⟨by first | rfl | (simp [errW_none, errW_some, erT_no, erV_no, erT_at, erV_at] <;> rfl) | (simp [*, errW_none, errW_some, erT_no, erV_no, erT_at, erV_at] <;> rfl), by repeat (first | (with_reducible first | exact HB.out | apply below_alloc | apply pw_below_drewN | apply below_drew1) | exact HB.out)⟩

end Go.Proofs.Ytnpgadfoohjlnaa.QB
