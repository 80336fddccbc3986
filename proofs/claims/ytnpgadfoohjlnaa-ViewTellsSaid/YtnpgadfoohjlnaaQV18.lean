/- Where a Lean function of this text answers, the Go function of its name comes to that answer: no other condition. Written by a program of this session out of the translation; Lean checks it. -/
import Derived.Test.YtnpgadfoohjlnaaQV0
import Derived.Test.YtnpgadfoohjlnaaQV1
import Derived.Test.YtnpgadfoohjlnaaQV2
import Derived.Test.YtnpgadfoohjlnaaQV4
import Derived.Test.YtnpgadfoohjlnaaQV6
import Derived.Test.YtnpgadfoohjlnaaQV7
import Derived.Test.YtnpgadfoohjlnaaQV9
import Derived.Test.YtnpgadfoohjlnaaQV11
import Derived.Test.YtnpgadfoohjlnaaQV12
namespace Go.Proofs.Ytnpgadfoohjlnaa.QV
open Go.RowKit Go.Proofs.YtnpgadfoohjlnaaW.PrintWords Go.Proofs.YtnpgadfoohjlnaaW.PrintLast Go.Proofs.YtnpgadfoohjlnaaW.PrintMore Go.Proofs.YtnpgadfoohjlnaaW.PrintX
attribute [local go_sem] max2_int min2_int max_two min_two max_three min_three max_four min_four   -- for this text's walks alone
set_option linter.unusedVariables false
set_option linter.unusedSimpArgs false

attribute [local go_sem high] eqA40
/-! ### cavillaw15_ViewTells_nil: function 4 -/
def cavillaw15_ViewTells_nil.f (k : Nat) (l0_0 : List Int) (l0_1 : List (S38)) (l0_2 : List (S44)) (a1 : Int) (a2 : Int) : Option (Bool) := (cavillaw15_few.f k l0_0 l0_1 l0_2).bind fun bt414 => ((view_New_nil.f k bt414.1 bt414.2.1 bt414.2.2).bind fun bt423 => (if (false == false) = true then ((view_File_Op_nil.f k bt423.1 a1).bind fun t425 => ((view_File_Chan_nil.f bt423.1 a1).bind fun t426 => (if (wrap64 (t425 + t426)) = 0 then ((view_File_Span_nil.f bt423.1 a1).bind fun bt427 => (if (bt427.1 == 0 && (bt427.2 == 0)) = true then ((view_File_Has_nil.f k bt423.1 a1 a2).bind fun t429 => (if t429 = true then (some false) else ((view_File_Empty_nil.f bt423.1 a1).bind fun t430 => (if t430 = true then ((cavillaw15_works.f k).bind fun t431 => (some t431)) else (some false))))) else (some false))) else (some false)))) else (some false)))
theorem cavillaw15_ViewTells_nil.mono : ∀ a0 a1 a2 a3 a4 k, LeO (cavillaw15_ViewTells_nil.f k a0 a1 a2 a3 a4) (cavillaw15_ViewTells_nil.f (k + 1) a0 a1 a2 a3 a4) := by
  intro a0 a1 a2 a3 a4 k
  unfold cavillaw15_ViewTells_nil.f
  repeat' first
      | (with_reducible exact cavillaw15_few.mono _ _ _ _)
      | (with_reducible exact cavillaw15_works.mono _)
      | (with_reducible exact view_File_Has_nil.mono _ _ _ _)
      | (with_reducible exact view_File_Op_nil.mono _ _ _)
      | (with_reducible exact view_New_nil.mono _ _ _ _)
      | (with_reducible exact LeO.refl _)
      | (with_reducible exact LeO.none _)
      | (with_reducible refine LeO.ite ?_ ?_)
      | (with_reducible refine LeO.bind ?_ (fun _ => ?_))
      | exact cavillaw15_few.mono _ _ _ _
      | exact cavillaw15_works.mono _
      | exact view_File_Has_nil.mono _ _ _ _
      | exact view_File_Op_nil.mono _ _ _
      | exact view_New_nil.mono _ _ _ _
      | exact LeO.none _
      | refine LeO.ite ?_ ?_
      | refine LeO.bind ?_ (fun _ => ?_)
set_option maxHeartbeats 8000000 in
set_option maxRecDepth 100000 in
theorem cavillaw15_ViewTells_nil.calls (k : Nat) (A0_0 : Option Addr) (c0_0 : Nat) (l0_0 : List Int) (A0_1 : Option Addr) (c0_1 : Nat) (l0_1 : List (S38)) (A0_2 : Option Addr) (c0_2 : Nat) (l0_2 : List (S44)) (a1 : Int) (a2 : Int) (r : Bool) (w : World) (hr0_0 : Kd.C (Kd.int .u8) w A0_0 l0_0.length l0_0) (hc0_0 : l0_0.length ≤ c0_0) (hr0_1 : Kd.C k38 w A0_1 l0_1.length l0_1) (hc0_1 : l0_1.length ≤ c0_1) (hr0_2 : Kd.C k44 w A0_2 l0_2.length l0_2) (hc0_2 : l0_2.length ≤ c0_2) (h : cavillaw15_ViewTells_nil.f k l0_0 l0_1 l0_2 a1 a2 = some r) (hrt : r = true) :
    Calls Try.prog 4 #[.agg #[.slice A0_0 l0_0.length c0_0, .slice A0_1 l0_1.length c0_1, .slice A0_2 l0_2.length c0_2], .int .i64 a1, .int .i64 a2] w fun e w' => e = .returned (.bool r) ∧ Below w.heap.size w w' := by
  have HRT := Aside0.mk hrt
  clear hrt
  have hu28 := Try.underlying28
  have hu26 := Try.underlying26
  have hu40 := Try.underlying40
  have hu32 := Try.underlying32
  have hu36 := Try.underlying36
  have HR0_0 := Aside0.mk hr0_0
  have HC0_0 := Aside0.mk hc0_0
  clear hr0_0 hc0_0
  have HR0_1 := Aside0.mk hr0_1
  have HC0_1 := Aside0.mk hc0_1
  clear hr0_1 hc0_1
  have HR0_2 := Aside0.mk hr0_2
  have HC0_2 := Aside0.mk hc0_2
  clear hr0_2 hc0_2
  have HB := Aside0.mk (Below.refl w.heap.size w)
  have H : ((cavillaw15_few.f k l0_0 l0_1 l0_2).bind fun bt414 => ((view_New_nil.f k bt414.1 bt414.2.1 bt414.2.2).bind fun bt423 => (if (false == false) = true then ((view_File_Op_nil.f k bt423.1 a1).bind fun t425 => ((view_File_Chan_nil.f bt423.1 a1).bind fun t426 => (if (wrap64 (t425 + t426)) = 0 then ((view_File_Span_nil.f bt423.1 a1).bind fun bt427 => (if (bt427.1 == 0 && (bt427.2 == 0)) = true then ((view_File_Has_nil.f k bt423.1 a1 a2).bind fun t429 => (if t429 = true then (some false) else ((view_File_Empty_nil.f bt423.1 a1).bind fun t430 => (if t430 = true then ((cavillaw15_works.f k).bind fun t431 => (some t431)) else (some false))))) else (some false))) else (some false)))) else (some false)))) = some r := h
  clear h
  replace H := Option.bind_eq_some_iff.mp H
  obtain ⟨⟨t414, t417, t420⟩, A40, H⟩ := H
  replace H : ((view_New_nil.f k t414 t417 t420).bind fun bt423 => (if (false == false) = true then ((view_File_Op_nil.f k bt423.1 a1).bind fun t425 => ((view_File_Chan_nil.f bt423.1 a1).bind fun t426 => (if (wrap64 (t425 + t426)) = 0 then ((view_File_Span_nil.f bt423.1 a1).bind fun bt427 => (if (bt427.1 == 0 && (bt427.2 == 0)) = true then ((view_File_Has_nil.f k bt423.1 a1 a2).bind fun t429 => (if t429 = true then (some false) else ((view_File_Empty_nil.f bt423.1 a1).bind fun t430 => (if t430 = true then ((cavillaw15_works.f k).bind fun t431 => (some t431)) else (some false))))) else (some false))) else (some false)))) else (some false))) = some r := H
  have A4 := Aside0.mk A40
  clear A40
  replace H := Option.bind_eq_some_iff.mp H
  obtain ⟨⟨t423, t424⟩, A50, H⟩ := H
  replace H : (if (false == false) = true then ((view_File_Op_nil.f k t423 a1).bind fun t425 => ((view_File_Chan_nil.f t423 a1).bind fun t426 => (if (wrap64 (t425 + t426)) = 0 then ((view_File_Span_nil.f t423 a1).bind fun bt427 => (if (bt427.1 == 0 && (bt427.2 == 0)) = true then ((view_File_Has_nil.f k t423 a1 a2).bind fun t429 => (if t429 = true then (some false) else ((view_File_Empty_nil.f t423 a1).bind fun t430 => (if t430 = true then ((cavillaw15_works.f k).bind fun t431 => (some t431)) else (some false))))) else (some false))) else (some false)))) else (some false)) = some r := H
  have A5 := Aside0.mk A50
  clear A50
  by_cases c6 : (false == false) = true
  · rw [if_pos c6] at H
    have c6b0 : (false == false) = true := c6
    (try (have c6b1 : decide (false = false) = true := by (first | decide | (simp at c6))))
    (try (have c6b2 : (false == false) = true := by (first | decide | (simp at c6))))
    clear c6
    replace H := Option.bind_eq_some_iff.mp H
    obtain ⟨t425, A70, H⟩ := H
    replace H : ((view_File_Chan_nil.f t423 a1).bind fun t426 => (if (wrap64 (t425 + t426)) = 0 then ((view_File_Span_nil.f t423 a1).bind fun bt427 => (if (bt427.1 == 0 && (bt427.2 == 0)) = true then ((view_File_Has_nil.f k t423 a1 a2).bind fun t429 => (if t429 = true then (some false) else ((view_File_Empty_nil.f t423 a1).bind fun t430 => (if t430 = true then ((cavillaw15_works.f k).bind fun t431 => (some t431)) else (some false))))) else (some false))) else (some false))) = some r := H
    have A7 := Aside0.mk A70
    clear A70
    replace H := Option.bind_eq_some_iff.mp H
    obtain ⟨t426, A80, H⟩ := H
    replace H : (if (wrap64 (t425 + t426)) = 0 then ((view_File_Span_nil.f t423 a1).bind fun bt427 => (if (bt427.1 == 0 && (bt427.2 == 0)) = true then ((view_File_Has_nil.f k t423 a1 a2).bind fun t429 => (if t429 = true then (some false) else ((view_File_Empty_nil.f t423 a1).bind fun t430 => (if t430 = true then ((cavillaw15_works.f k).bind fun t431 => (some t431)) else (some false))))) else (some false))) else (some false)) = some r := H
    have A8 := Aside0.mk A80
    clear A80
    by_cases c9 : (wrap64 (t425 + t426)) = 0
    · rw [if_pos c9] at H
      have c9b0 : ((wrap64 (t425 + t426)) == 0) = true := beq_iff_eq.mpr c9
      have c9b1 : ((wrap64 (t425 + t426)) != 0) = false := bne_eq_false_iff_eq.mpr c9
      (try (have c9b2 : ((IntKind.i64.wrap (t425 + t426)) == 0) = true := by simp only [i64_w]; exact beq_iff_eq.mpr c9))
      (try (have c9b3 : ((IntKind.i64.wrap (t425 + t426)) != 0) = false := by simp only [i64_w]; exact bne_eq_false_iff_eq.mpr c9))
      clear c9
      replace H := Option.bind_eq_some_iff.mp H
      obtain ⟨⟨t427, t428⟩, A100, H⟩ := H
      replace H : (if (t427 == 0 && (t428 == 0)) = true then ((view_File_Has_nil.f k t423 a1 a2).bind fun t429 => (if t429 = true then (some false) else ((view_File_Empty_nil.f t423 a1).bind fun t430 => (if t430 = true then ((cavillaw15_works.f k).bind fun t431 => (some t431)) else (some false))))) else (some false)) = some r := H
      have A10 := Aside0.mk A100
      clear A100
      by_cases c11 : (t427 == 0 && (t428 == 0)) = true
      · rw [if_pos c11] at H
        have c11b0 : (t427 == 0 && (t428 == 0)) = true := c11
        (try (have c11b1 : decide (t427 = 0 && (t428 == 0)) = true := by simpa using c11))
        (try (have c11b2 : (t427 == 0 && (t428 == 0)) = true := by simpa using c11))
        clear c11
        replace H := Option.bind_eq_some_iff.mp H
        obtain ⟨t429, A120, H⟩ := H
        replace H : (if t429 = true then (some false) else ((view_File_Empty_nil.f t423 a1).bind fun t430 => (if t430 = true then ((cavillaw15_works.f k).bind fun t431 => (some t431)) else (some false)))) = some r := H
        have A12 := Aside0.mk A120
        clear A120
        by_cases c13 : t429 = true
        · subst c13
          have H1 : (some false) = some r := by rw [if_pos rfl] at H; exact H
          clear H
          have H := H1
          clear H1
          exact absurd ((Option.some.inj H).trans HRT.out) (by decide)
        · replace c13 := Bool.eq_false_iff.mpr c13
          subst c13
          have H1 : ((view_File_Empty_nil.f t423 a1).bind fun t430 => (if t430 = true then ((cavillaw15_works.f k).bind fun t431 => (some t431)) else (some false))) = some r := by rw [if_neg (show ¬ (false = true) by decide)] at H; exact H
          clear H
          have H := H1
          clear H1
          replace H := Option.bind_eq_some_iff.mp H
          obtain ⟨t430, A140, H⟩ := H
          replace H : (if t430 = true then ((cavillaw15_works.f k).bind fun t431 => (some t431)) else (some false)) = some r := H
          have A14 := Aside0.mk A140
          clear A140
          by_cases c15 : t430 = true
          · subst c15
            have H1 : ((cavillaw15_works.f k).bind fun t431 => (some t431)) = some r := by rw [if_pos rfl] at H; exact H
            clear H
            have H := H1
            clear H1
            replace H := Option.bind_eq_some_iff.mp H
            obtain ⟨t431, A160, H⟩ := H
            replace H : (some t431) = some r := H
            have A16 := Aside0.mk A160
            clear A160
            obtain rfl := Option.some.inj H
            go_enter Try.func4, Try.ntmps4
            go_wp2_with (first | ((with_reducible refine gate_dst (N := 3) rfl ?_); refine box_event ?hg (N := 3) ?hd (cs := #[.slice A0_0 l0_0.length c0_0, .slice A0_1 l0_1.length c0_1, .slice A0_2 l0_2.length c0_2]) (t := 28) ?hr ?_; (case hd => rfl); (case hg => rfl); (case hr => first | (go_simp; done) | (go_simp; rfl)); intro gb413 hg w17 hbox hb; have n0_ := Aside0.mk (below_step (by repeat (first | (with_reducible first | exact HB.out | apply below_alloc | apply pw_below_drewN | apply below_drew1) | exact HB.out)) hb); have n1_ := Aside0.mk (hbox); have n2_ := Aside0.mk ((by rw [hg]; exact (below_size (by repeat (first | (with_reducible first | exact HB.out | apply below_alloc | apply pw_below_drewN | apply below_drew1) | exact HB.out))) : w.heap.size ≤ gb413)); have n3_ := n2_; clear HB; have HB := n0_; have BK413 := n1_; have GW413 := n2_; have GE413 := n3_; clear n0_ n1_ n2_ n3_; clear hb hbox hg; have hcz18_0 : w17.cell? ⟨gb413, 0, none⟩ = some (.slice A0_0 l0_0.length c0_0) := (blk_cell BK413.out 0).trans rfl; have hcz18_1 : w17.cell? ⟨gb413, 1, none⟩ = some (.slice A0_1 l0_1.length c0_1) := (blk_cell BK413.out 1).trans rfl; have hcz18_2 : w17.cell? ⟨gb413, 2, none⟩ = some (.slice A0_2 l0_2.length c0_2) := (blk_cell BK413.out 2).trans rfl; have hfz18_0 := blk_frozen BK413.out 0; have hfz18_1 := blk_frozen BK413.out 1; have hfz18_2 := blk_frozen BK413.out 2) | ((with_reducible refine gate_callee (f := 8) rfl ?_); refine goesL_ (some 14) rfl rfl Try.func8 (by kernel_rfl) rfl #[.agg #[.slice A0_0 l0_0.length c0_0, .slice A0_1 l0_1.length c0_1, .slice A0_2 l0_2.length c0_2]] rfl (by (try simp only [List.map_toArray, List.map_cons, List.map_nil]); first | done | rfl | (simp only [List.length_drop, List.length_take]; rfl)) ?_; (with_reducible refine (cavillaw15_few.calls k (fun k_ => k_ < w.heap.size) _ _ l0_0 (fun k_ => k_ < w.heap.size) _ _ l0_1 (fun k_ => k_ < w.heap.size) _ _ l0_2 t414 t417 t420 _ ?side1 ?side2 ?side3 A4.out).mono ?_); (case side1 => exact Kd.V_mk HC0_0.out (Kd.F_below (Kd.C_F (Kd.heap_int .u8) HR0_0.out) (by repeat (first | (with_reducible first | exact HB.out | apply below_alloc | apply pw_below_drewN | apply below_drew1 | refine below_set ?_ GE413.out) | exact HB.out)))); (case side2 => exact Kd.V_mk HC0_1.out (Kd.F_below (Kd.C_F k38_heap HR0_1.out) (by repeat (first | (with_reducible first | exact HB.out | apply below_alloc | apply pw_below_drewN | apply below_drew1 | refine below_set ?_ GE413.out) | exact HB.out)))); (case side3 => exact Kd.V_mk HC0_2.out (Kd.F_below (Kd.C_F k44_heap HR0_2.out) (by repeat (first | (with_reducible first | exact HB.out | apply below_alloc | apply pw_below_drewN | apply below_drew1 | refine below_set ?_ GE413.out) | exact HB.out)))); rintro e w19 ⟨v415, v418, v421, rfl, ho0, ho1, ho2, hb⟩; refine ⟨_, rfl, ?_⟩; have n0_ := Aside0.mk (Kd.V_lower (Kd.V_mono (ok' := fun k_ => k_ ≠ gb413) ho0 (fun k_ hk_ => Or.elim hk_ (fun hs_ => Or.elim hs_ (fun hs_ => fun e_ => Nat.not_le.2 hs_ (by rw [e_]; exact GW413.out)) (fun hs_ => Or.elim hs_ (fun hs_ => fun e_ => Nat.not_le.2 hs_ (by rw [e_]; exact GW413.out)) (fun hs_ => fun e_ => Nat.not_le.2 hs_ (by rw [e_]; exact GW413.out)))) (fun hn_ => (Kd.freshB (g := gb413) (o := .cells #[.slice A0_0 l0_0.length c0_0, .slice A0_1 l0_1.length c0_1, .slice A0_2 l0_2.length c0_2] 28 (0, 0)) (by (with_reducible repeat (first | refine blk_drewN ?_ _ | refine blk_drew ?_ | refine blk_alloc ?_ _)); exact BK413.out) k_ hn_)))) (below_size (by repeat (first | (with_reducible first | exact HB.out | apply below_alloc | apply pw_below_drewN | apply below_drew1 | refine below_set ?_ GE413.out) | exact HB.out)))); have n1_ := Aside0.mk (Kd.V_lower (Kd.V_mono (ok' := fun k_ => k_ ≠ gb413) ho1 (fun k_ hk_ => Or.elim hk_ (fun hs_ => Or.elim hs_ (fun hs_ => fun e_ => Nat.not_le.2 hs_ (by rw [e_]; exact GW413.out)) (fun hs_ => Or.elim hs_ (fun hs_ => fun e_ => Nat.not_le.2 hs_ (by rw [e_]; exact GW413.out)) (fun hs_ => fun e_ => Nat.not_le.2 hs_ (by rw [e_]; exact GW413.out)))) (fun hn_ => (Kd.freshB (g := gb413) (o := .cells #[.slice A0_0 l0_0.length c0_0, .slice A0_1 l0_1.length c0_1, .slice A0_2 l0_2.length c0_2] 28 (0, 0)) (by (with_reducible repeat (first | refine blk_drewN ?_ _ | refine blk_drew ?_ | refine blk_alloc ?_ _)); exact BK413.out) k_ hn_)))) (below_size (by repeat (first | (with_reducible first | exact HB.out | apply below_alloc | apply pw_below_drewN | apply below_drew1 | refine below_set ?_ GE413.out) | exact HB.out)))); have n2_ := Aside0.mk (Kd.V_lower (Kd.V_mono (ok' := fun k_ => k_ ≠ gb413) ho2 (fun k_ hk_ => Or.elim hk_ (fun hs_ => Or.elim hs_ (fun hs_ => fun e_ => Nat.not_le.2 hs_ (by rw [e_]; exact GW413.out)) (fun hs_ => Or.elim hs_ (fun hs_ => fun e_ => Nat.not_le.2 hs_ (by rw [e_]; exact GW413.out)) (fun hs_ => fun e_ => Nat.not_le.2 hs_ (by rw [e_]; exact GW413.out)))) (fun hn_ => (Kd.freshB (g := gb413) (o := .cells #[.slice A0_0 l0_0.length c0_0, .slice A0_1 l0_1.length c0_1, .slice A0_2 l0_2.length c0_2] 28 (0, 0)) (by (with_reducible repeat (first | refine blk_drewN ?_ _ | refine blk_drew ?_ | refine blk_alloc ?_ _)); exact BK413.out) k_ hn_)))) (below_size (by repeat (first | (with_reducible first | exact HB.out | apply below_alloc | apply pw_below_drewN | apply below_drew1 | refine below_set ?_ GE413.out) | exact HB.out)))); have n3_ := Aside0.mk (blk_below (g := gb413) (o := .cells #[.slice A0_0 l0_0.length c0_0, .slice A0_1 l0_1.length c0_1, .slice A0_2 l0_2.length c0_2] 28 (0, 0)) (by (with_reducible repeat (first | refine blk_drewN ?_ _ | refine blk_drew ?_ | refine blk_alloc ?_ _)); exact BK413.out) hb); have n4_ := Aside0.mk (below_step (by repeat (first | (with_reducible first | exact HB.out | apply below_alloc | apply pw_below_drewN | apply below_drew1 | refine below_set ?_ GE413.out) | exact HB.out)) hb); clear BK413; clear HB; have HO416 := n0_; have HO419 := n1_; have HO422 := n2_; have BK413 := n3_; have HB := n4_; clear n0_ n1_ n2_ n3_ n4_; (try clear hb); (try clear hb2); (try clear hk); (try clear hi); (try clear ho0); (try clear ho1); (try clear ho2); obtain ⟨Ao20, co20, eo20⟩ := Kd.V_slice HO416.out; subst eo20; have hcz21_0 : w19.cell? ⟨gb413, 0, none⟩ = some (.slice A0_0 l0_0.length c0_0) := (blk_cell BK413.out 0).trans rfl; have hcz21_1 : w19.cell? ⟨gb413, 1, none⟩ = some (.slice A0_1 l0_1.length c0_1) := (blk_cell BK413.out 1).trans rfl; have hcz21_2 : w19.cell? ⟨gb413, 2, none⟩ = some (.slice A0_2 l0_2.length c0_2) := (blk_cell BK413.out 2).trans rfl; have hfz21_0 := blk_frozen BK413.out 0; have hfz21_1 := blk_frozen BK413.out 1; have hfz21_2 := blk_frozen BK413.out 2; obtain ⟨Ao22, co22, eo22⟩ := Kd.V_slice HO419.out; subst eo22; obtain ⟨Ao23, co23, eo23⟩ := Kd.V_slice HO422.out; subst eo23) | ((with_reducible refine gate_callee (f := 9) rfl ?_); refine goesL_ (some 22) rfl rfl Try.func9 (by kernel_rfl) rfl #[.slice Ao20 t414.length co20, .slice Ao22 t417.length co22, .agg #[.slice Ao23 t420.length co23]] rfl (by (try simp only [List.map_toArray, List.map_cons, List.map_nil]); first | done | rfl | (simp only [List.length_drop, List.length_take]; rfl)) ?_; (with_reducible refine (view_New_nil.calls k _ _ t414 _ _ t417 _ _ t420 t423 t424 _ ?side1 ?side2 ?side3 ?side4 ?side5 ?side6 A5.out).mono ?_); (case side1 => refine (Kd.V_reads' (e := 5) (base := w.heap.size) (ok := fun k_ => k_ ≠ gb413) (n := t414.length) (c := co20) ?_).2.2; exact (by (with_reducible repeat (first | apply Kd.V_alloc | apply Kd.V_drewN | apply Kd.V_drew)); exact (Kd.V_mono (Kd.V_far (p := ⟨gb413, 2, none⟩) (Kd.V_far (p := ⟨gb413, 1, none⟩) (Kd.V_far (p := ⟨gb413, 0, none⟩) (Kd.V_mono HO416.out (fun k_ hk => (⟨hk, hk⟩ : _ ∧ k_ ≠ gb413))) (fun _ hk => hk.2) (.slice Ao20 t414.length co20)) (fun _ hk => hk.2) (.slice Ao22 t417.length co22)) (fun _ hk => hk.2) (.slice Ao23 t420.length co23)) (fun _ h_ => h_.1)))); (case side2 => exact (Kd.V_reads' HO416.out).2.1); (case side3 => refine (Kd.V_reads' (e := 38) (base := w.heap.size) (ok := fun k_ => k_ ≠ gb413) (n := t417.length) (c := co22) ?_).2.2; exact (by (with_reducible repeat (first | apply Kd.V_alloc | apply Kd.V_drewN | apply Kd.V_drew)); exact (Kd.V_mono (Kd.V_far (p := ⟨gb413, 2, none⟩) (Kd.V_far (p := ⟨gb413, 1, none⟩) (Kd.V_far (p := ⟨gb413, 0, none⟩) (Kd.V_mono HO419.out (fun k_ hk => (⟨hk, hk⟩ : _ ∧ k_ ≠ gb413))) (fun _ hk => hk.2) (.slice Ao20 t414.length co20)) (fun _ hk => hk.2) (.slice Ao22 t417.length co22)) (fun _ hk => hk.2) (.slice Ao23 t420.length co23)) (fun _ h_ => h_.1)))); (case side4 => exact (Kd.V_reads' HO419.out).2.1); (case side5 => refine (Kd.V_reads' (e := 44) (base := w.heap.size) (ok := fun k_ => k_ ≠ gb413) (n := t420.length) (c := co23) ?_).2.2; exact (by (with_reducible repeat (first | apply Kd.V_alloc | apply Kd.V_drewN | apply Kd.V_drew)); exact (Kd.V_mono (Kd.V_far (p := ⟨gb413, 2, none⟩) (Kd.V_far (p := ⟨gb413, 1, none⟩) (Kd.V_far (p := ⟨gb413, 0, none⟩) (Kd.V_mono HO422.out (fun k_ hk => (⟨hk, hk⟩ : _ ∧ k_ ≠ gb413))) (fun _ hk => hk.2) (.slice Ao20 t414.length co20)) (fun _ hk => hk.2) (.slice Ao22 t417.length co22)) (fun _ hk => hk.2) (.slice Ao23 t420.length co23)) (fun _ h_ => h_.1)))); (case side6 => exact (Kd.V_reads' HO422.out).2.1); rintro e w24 ⟨rfl, hb⟩; refine ⟨_, rfl, ?_⟩; have n0_ := Aside0.mk (Kd.V_below (by (with_reducible repeat (first | apply Kd.V_alloc | apply Kd.V_drewN | apply Kd.V_drew)); exact (Kd.V_mono (Kd.V_far (p := ⟨gb413, 2, none⟩) (Kd.V_far (p := ⟨gb413, 1, none⟩) (Kd.V_far (p := ⟨gb413, 0, none⟩) (Kd.V_mono HO416.out (fun k_ hk => (⟨hk, hk⟩ : _ ∧ k_ ≠ gb413))) (fun _ hk => hk.2) (.slice Ao20 t414.length co20)) (fun _ hk => hk.2) (.slice Ao22 t417.length co22)) (fun _ hk => hk.2) (.slice Ao23 t420.length co23)) (fun _ h_ => h_.1))) hb); have n1_ := Aside0.mk (Kd.V_below (by (with_reducible repeat (first | apply Kd.V_alloc | apply Kd.V_drewN | apply Kd.V_drew)); exact (Kd.V_mono (Kd.V_far (p := ⟨gb413, 2, none⟩) (Kd.V_far (p := ⟨gb413, 1, none⟩) (Kd.V_far (p := ⟨gb413, 0, none⟩) (Kd.V_mono HO419.out (fun k_ hk => (⟨hk, hk⟩ : _ ∧ k_ ≠ gb413))) (fun _ hk => hk.2) (.slice Ao20 t414.length co20)) (fun _ hk => hk.2) (.slice Ao22 t417.length co22)) (fun _ hk => hk.2) (.slice Ao23 t420.length co23)) (fun _ h_ => h_.1))) hb); have n2_ := Aside0.mk (Kd.V_below (by (with_reducible repeat (first | apply Kd.V_alloc | apply Kd.V_drewN | apply Kd.V_drew)); exact (Kd.V_mono (Kd.V_far (p := ⟨gb413, 2, none⟩) (Kd.V_far (p := ⟨gb413, 1, none⟩) (Kd.V_far (p := ⟨gb413, 0, none⟩) (Kd.V_mono HO422.out (fun k_ hk => (⟨hk, hk⟩ : _ ∧ k_ ≠ gb413))) (fun _ hk => hk.2) (.slice Ao20 t414.length co20)) (fun _ hk => hk.2) (.slice Ao22 t417.length co22)) (fun _ hk => hk.2) (.slice Ao23 t420.length co23)) (fun _ h_ => h_.1))) hb); have n3_ := Aside0.mk (blk_below (g := gb413) (o := .cells #[.slice Ao20 t414.length co20, .slice Ao22 t417.length co22, .slice Ao23 t420.length co23] 28 (0, 0)) (by (with_reducible repeat (first | refine blk_drewN ?_ _ | refine blk_drew ?_ | refine blk_alloc ?_ _)); refine blk_put (cs := #[.slice Ao20 t414.length co20, .slice Ao22 t417.length co22, .slice A0_2 l0_2.length c0_2]) ?_ 2 _ rfl; (with_reducible repeat (first | refine blk_drewN ?_ _ | refine blk_drew ?_ | refine blk_alloc ?_ _)); refine blk_put (cs := #[.slice Ao20 t414.length co20, .slice A0_1 l0_1.length c0_1, .slice A0_2 l0_2.length c0_2]) ?_ 1 _ rfl; (with_reducible repeat (first | refine blk_drewN ?_ _ | refine blk_drew ?_ | refine blk_alloc ?_ _)); refine blk_put (cs := #[.slice A0_0 l0_0.length c0_0, .slice A0_1 l0_1.length c0_1, .slice A0_2 l0_2.length c0_2]) ?_ 0 _ rfl; (with_reducible repeat (first | refine blk_drewN ?_ _ | refine blk_drew ?_ | refine blk_alloc ?_ _)); exact BK413.out) hb); have n4_ := Aside0.mk (below_step (by repeat (first | (with_reducible first | exact HB.out | apply below_alloc | apply pw_below_drewN | apply below_drew1 | refine below_set ?_ GE413.out) | exact HB.out)) hb); clear HO416; clear HO419; clear HO422; clear BK413; clear HB; have HO416 := n0_; have HO419 := n1_; have HO422 := n2_; have BK413 := n3_; have HB := n4_; clear n0_ n1_ n2_ n3_ n4_; (try clear hb); (try clear hb2); (try clear hk); (try clear hi); (try simp only [errW_none, errW_some, erT_no, erV_no, erT_at, erV_at])) | (go_at_call 13; (with_reducible refine (view_File_Op_nil.calls k t423 a1 t425 _ A7.out).mono ?_); rintro e w25 ⟨rfl, hb⟩; have n0_ := Aside0.mk (Kd.V_below (by (with_reducible repeat (first | apply Kd.V_alloc | apply Kd.V_drewN | apply Kd.V_drew)); exact HO416.out) hb); have n1_ := Aside0.mk (Kd.V_below (by (with_reducible repeat (first | apply Kd.V_alloc | apply Kd.V_drewN | apply Kd.V_drew)); exact HO419.out) hb); have n2_ := Aside0.mk (Kd.V_below (by (with_reducible repeat (first | apply Kd.V_alloc | apply Kd.V_drewN | apply Kd.V_drew)); exact HO422.out) hb); have n3_ := Aside0.mk (blk_below (g := gb413) (o := .cells #[.slice Ao20 t414.length co20, .slice Ao22 t417.length co22, .slice Ao23 t420.length co23] 28 (0, 0)) (by (with_reducible repeat (first | refine blk_drewN ?_ _ | refine blk_drew ?_ | refine blk_alloc ?_ _)); exact BK413.out) hb); have n4_ := Aside0.mk (below_step (by repeat (first | (with_reducible first | exact HB.out | apply below_alloc | apply pw_below_drewN | apply below_drew1 | refine below_set ?_ GE413.out) | exact HB.out)) hb); clear HO416; clear HO419; clear HO422; clear BK413; clear HB; have HO416 := n0_; have HO419 := n1_; have HO422 := n2_; have BK413 := n3_; have HB := n4_; clear n0_ n1_ n2_ n3_ n4_; (try clear hb); (try clear hb2); (try clear hk); (try clear hi)) | (go_at_call 14; (with_reducible refine (view_File_Chan_nil.calls t423 a1 t426 _ A8.out).mono ?_); rintro e w26 ⟨rfl, hb⟩; have n0_ := Aside0.mk (Kd.V_below (by (with_reducible repeat (first | apply Kd.V_alloc | apply Kd.V_drewN | apply Kd.V_drew)); exact HO416.out) hb); have n1_ := Aside0.mk (Kd.V_below (by (with_reducible repeat (first | apply Kd.V_alloc | apply Kd.V_drewN | apply Kd.V_drew)); exact HO419.out) hb); have n2_ := Aside0.mk (Kd.V_below (by (with_reducible repeat (first | apply Kd.V_alloc | apply Kd.V_drewN | apply Kd.V_drew)); exact HO422.out) hb); have n3_ := Aside0.mk (blk_below (g := gb413) (o := .cells #[.slice Ao20 t414.length co20, .slice Ao22 t417.length co22, .slice Ao23 t420.length co23] 28 (0, 0)) (by (with_reducible repeat (first | refine blk_drewN ?_ _ | refine blk_drew ?_ | refine blk_alloc ?_ _)); exact BK413.out) hb); have n4_ := Aside0.mk (below_step (by repeat (first | (with_reducible first | exact HB.out | apply below_alloc | apply pw_below_drewN | apply below_drew1 | refine below_set ?_ GE413.out) | exact HB.out)) hb); clear HO416; clear HO419; clear HO422; clear BK413; clear HB; have HO416 := n0_; have HO419 := n1_; have HO422 := n2_; have BK413 := n3_; have HB := n4_; clear n0_ n1_ n2_ n3_ n4_; (try clear hb); (try clear hb2); (try clear hk); (try clear hi)) | (go_at_call 11; (with_reducible refine (view_File_Span_nil.calls t423 a1 t427 t428 _ A10.out).mono ?_); rintro e w27 ⟨rfl, hb⟩; have n0_ := Aside0.mk (Kd.V_below (by (with_reducible repeat (first | apply Kd.V_alloc | apply Kd.V_drewN | apply Kd.V_drew)); exact HO416.out) hb); have n1_ := Aside0.mk (Kd.V_below (by (with_reducible repeat (first | apply Kd.V_alloc | apply Kd.V_drewN | apply Kd.V_drew)); exact HO419.out) hb); have n2_ := Aside0.mk (Kd.V_below (by (with_reducible repeat (first | apply Kd.V_alloc | apply Kd.V_drewN | apply Kd.V_drew)); exact HO422.out) hb); have n3_ := Aside0.mk (blk_below (g := gb413) (o := .cells #[.slice Ao20 t414.length co20, .slice Ao22 t417.length co22, .slice Ao23 t420.length co23] 28 (0, 0)) (by (with_reducible repeat (first | refine blk_drewN ?_ _ | refine blk_drew ?_ | refine blk_alloc ?_ _)); exact BK413.out) hb); have n4_ := Aside0.mk (below_step (by repeat (first | (with_reducible first | exact HB.out | apply below_alloc | apply pw_below_drewN | apply below_drew1 | refine below_set ?_ GE413.out) | exact HB.out)) hb); clear HO416; clear HO419; clear HO422; clear BK413; clear HB; have HO416 := n0_; have HO419 := n1_; have HO422 := n2_; have BK413 := n3_; have HB := n4_; clear n0_ n1_ n2_ n3_ n4_; (try clear hb); (try clear hb2); (try clear hk); (try clear hi)) | (go_at_call 15; (with_reducible refine (view_File_Has_nil.calls k t423 a1 a2 false _ A12.out).mono ?_); rintro e w28 ⟨rfl, hb⟩; have n0_ := Aside0.mk (Kd.V_below (by (with_reducible repeat (first | apply Kd.V_alloc | apply Kd.V_drewN | apply Kd.V_drew)); exact HO416.out) hb); have n1_ := Aside0.mk (Kd.V_below (by (with_reducible repeat (first | apply Kd.V_alloc | apply Kd.V_drewN | apply Kd.V_drew)); exact HO419.out) hb); have n2_ := Aside0.mk (Kd.V_below (by (with_reducible repeat (first | apply Kd.V_alloc | apply Kd.V_drewN | apply Kd.V_drew)); exact HO422.out) hb); have n3_ := Aside0.mk (blk_below (g := gb413) (o := .cells #[.slice Ao20 t414.length co20, .slice Ao22 t417.length co22, .slice Ao23 t420.length co23] 28 (0, 0)) (by (with_reducible repeat (first | refine blk_drewN ?_ _ | refine blk_drew ?_ | refine blk_alloc ?_ _)); exact BK413.out) hb); have n4_ := Aside0.mk (below_step (by repeat (first | (with_reducible first | exact HB.out | apply below_alloc | apply pw_below_drewN | apply below_drew1 | refine below_set ?_ GE413.out) | exact HB.out)) hb); clear HO416; clear HO419; clear HO422; clear BK413; clear HB; have HO416 := n0_; have HO419 := n1_; have HO422 := n2_; have BK413 := n3_; have HB := n4_; clear n0_ n1_ n2_ n3_ n4_; (try clear hb); (try clear hb2); (try clear hk); (try clear hi)) | (go_at_call 16; (with_reducible refine (view_File_Empty_nil.calls t423 a1 true _ A14.out).mono ?_); rintro e w29 ⟨rfl, hb⟩; have n0_ := Aside0.mk (Kd.V_below (by (with_reducible repeat (first | apply Kd.V_alloc | apply Kd.V_drewN | apply Kd.V_drew)); exact HO416.out) hb); have n1_ := Aside0.mk (Kd.V_below (by (with_reducible repeat (first | apply Kd.V_alloc | apply Kd.V_drewN | apply Kd.V_drew)); exact HO419.out) hb); have n2_ := Aside0.mk (Kd.V_below (by (with_reducible repeat (first | apply Kd.V_alloc | apply Kd.V_drewN | apply Kd.V_drew)); exact HO422.out) hb); have n3_ := Aside0.mk (blk_below (g := gb413) (o := .cells #[.slice Ao20 t414.length co20, .slice Ao22 t417.length co22, .slice Ao23 t420.length co23] 28 (0, 0)) (by (with_reducible repeat (first | refine blk_drewN ?_ _ | refine blk_drew ?_ | refine blk_alloc ?_ _)); exact BK413.out) hb); have n4_ := Aside0.mk (below_step (by repeat (first | (with_reducible first | exact HB.out | apply below_alloc | apply pw_below_drewN | apply below_drew1 | refine below_set ?_ GE413.out) | exact HB.out)) hb); clear HO416; clear HO419; clear HO422; clear BK413; clear HB; have HO416 := n0_; have HO419 := n1_; have HO422 := n2_; have BK413 := n3_; have HB := n4_; clear n0_ n1_ n2_ n3_ n4_; (try clear hb); (try clear hb2); (try clear hk); (try clear hi)) | (go_at_call 10; (with_reducible refine (cavillaw15_works.calls k  t431 _ A16.out).mono ?_); rintro e w30 ⟨rfl, hb⟩; have n0_ := Aside0.mk (Kd.V_below (by (with_reducible repeat (first | apply Kd.V_alloc | apply Kd.V_drewN | apply Kd.V_drew)); exact HO416.out) hb); have n1_ := Aside0.mk (Kd.V_below (by (with_reducible repeat (first | apply Kd.V_alloc | apply Kd.V_drewN | apply Kd.V_drew)); exact HO419.out) hb); have n2_ := Aside0.mk (Kd.V_below (by (with_reducible repeat (first | apply Kd.V_alloc | apply Kd.V_drewN | apply Kd.V_drew)); exact HO422.out) hb); have n3_ := Aside0.mk (blk_below (g := gb413) (o := .cells #[.slice Ao20 t414.length co20, .slice Ao22 t417.length co22, .slice Ao23 t420.length co23] 28 (0, 0)) (by (with_reducible repeat (first | refine blk_drewN ?_ _ | refine blk_drew ?_ | refine blk_alloc ?_ _)); exact BK413.out) hb); have n4_ := Aside0.mk (below_step (by repeat (first | (with_reducible first | exact HB.out | apply below_alloc | apply pw_below_drewN | apply below_drew1 | refine below_set ?_ GE413.out) | exact HB.out)) hb); clear HO416; clear HO419; clear HO422; clear BK413; clear HB; have HO416 := n0_; have HO419 := n1_; have HO422 := n2_; have BK413 := n3_; have HB := n4_; clear n0_ n1_ n2_ n3_ n4_; (try clear hb); (try clear hb2); (try clear hk); (try clear hi)))
            go_ret
            exact ⟨by first | rfl | (simp [errW_none, errW_some, erT_no, erV_no, erT_at, erV_at] <;> rfl) | (simp [*, errW_none, errW_some, erT_no, erV_no, erT_at, erV_at] <;> rfl), by repeat (first | (with_reducible first | exact HB.out | apply below_alloc | apply pw_below_drewN | apply below_drew1 | refine below_set ?_ GE413.out) | exact HB.out)⟩
          · replace c15 := Bool.eq_false_iff.mpr c15
            subst c15
            have H1 : (some false) = some r := by rw [if_neg (show ¬ (false = true) by decide)] at H; exact H
            clear H
            have H := H1
            clear H1
            exact absurd ((Option.some.inj H).trans HRT.out) (by decide)
      · rw [if_neg c11] at H
        have c11b0 : (t427 == 0 && (t428 == 0)) = false := by simpa using c11
        (try (have c11b1 : decide (t427 = 0 && (t428 == 0)) = false := by simpa using c11))
        (try (have c11b2 : (t427 == 0 && (t428 == 0)) = false := by simpa using c11))
        (try (have c11b3 : ((t427 = 0 && (t428 == 0)) = False) := by simpa using c11))
        clear c11
        exact absurd ((Option.some.inj H).trans HRT.out) (by decide)
    · rw [if_neg c9] at H
      have c9b0 : ((wrap64 (t425 + t426)) == 0) = false := beq_eq_false_iff_ne.mpr c9
      have c9b1 : ((wrap64 (t425 + t426)) != 0) = true := bne_iff_ne.mpr c9
      (try (have c9b2 : ((IntKind.i64.wrap (t425 + t426)) == 0) = false := by simp only [i64_w]; exact beq_eq_false_iff_ne.mpr c9))
      (try (have c9b3 : ((IntKind.i64.wrap (t425 + t426)) != 0) = true := by simp only [i64_w]; exact bne_iff_ne.mpr c9))
      exact absurd ((Option.some.inj H).trans HRT.out) (by decide)
  · rw [if_neg c6] at H
    have c6b0 : (false == false) = false := by (first | decide | (simp at c6))
    (try (have c6b1 : decide (false = false) = false := by (first | decide | (simp at c6))))
    (try (have c6b2 : (false == false) = false := by (first | decide | (simp at c6))))
    (try (have c6b3 : ((false = false) = False) := by (first | decide | (simp at c6))))
    clear c6
    exact absurd ((Option.some.inj H).trans HRT.out) (by decide)

end Go.Proofs.Ytnpgadfoohjlnaa.QV
