/- Where a Lean function of this text answers, the Go function of its name comes to that answer: no other condition. Written by a program of this session out of the translation; Lean checks it. -/
import Derived.Test.YtnpgadfoohjlnabDoorQZ0
import Derived.Test.YtnpgadfoohjlnabDoorQZ1
namespace Go.Proofs.YtnpgadfoohjlnabDoor.QZ
open Go.RowKit Go.Proofs.YtnpgadfoohjlnabDoorW.PrintWords Go.Proofs.YtnpgadfoohjlnabDoorW.PrintLast Go.Proofs.YtnpgadfoohjlnabDoorW.PrintMore Go.Proofs.YtnpgadfoohjlnabDoorW.PrintX
attribute [local go_sem] max2_int min2_int max_two min_two max_three min_three max_four min_four   -- for this text's walks alone
set_option linter.unusedVariables false
set_option linter.unusedSimpArgs false

/-! ### why_Step: function 29 -/
def why_Step.f (a0 : Int) : Option (ByteArray) := if a0 ≥ 0 then ((strconv_FormatUint_55.f (IntKind.u64.wrap ((IntKind.u64.wrap (a0)) + 1)) 10).bind fun t122 => (if 9 + t122.size ≤ 9223372036854775807 then (some ((⟨#[97, 114, 103, 117, 109, 101, 110, 116, 32]⟩ : ByteArray) ++ t122)) else (none))) else (if a0 = (-1) then (some (⟨#[103, 105, 118, 101, 110, 32, 116, 121, 112, 101, 32, 97, 114, 103, 117, 109, 101, 110, 116]⟩ : ByteArray)) else ((strconv_FormatUint_55.f (IntKind.u64.wrap (wrap64 (-(wrap64 (a0 + 1))))) 10).bind fun t123 => (if 24 + t123.size ≤ 9223372036854775807 then (some ((⟨#[98, 111, 117, 110, 100, 32, 111, 102, 32, 116, 121, 112, 101, 32, 112, 97, 114, 97, 109, 101, 116, 101, 114, 32]⟩ : ByteArray) ++ t123)) else (none))))
set_option maxHeartbeats 8000000 in
set_option maxRecDepth 100000 in
theorem why_Step.calls (a0 : Int) (r : ByteArray) (w : World) (hG : GL_ w) (h : why_Step.f a0 = some r) :
    Calls Tryd.prog 29 #[.int .i64 a0] w fun e w' => e = .returned (.string r) ∧ Below w.heap.size w w' := by
  have HB := Aside0.mk (Below.refl w.heap.size w)
  have HG := Aside0.mk hG
  clear hG
  have H : (if a0 ≥ 0 then ((strconv_FormatUint_55.f (IntKind.u64.wrap ((IntKind.u64.wrap (a0)) + 1)) 10).bind fun t122 => (if 9 + t122.size ≤ 9223372036854775807 then (some ((⟨#[97, 114, 103, 117, 109, 101, 110, 116, 32]⟩ : ByteArray) ++ t122)) else (none))) else (if a0 = (-1) then (some (⟨#[103, 105, 118, 101, 110, 32, 116, 121, 112, 101, 32, 97, 114, 103, 117, 109, 101, 110, 116]⟩ : ByteArray)) else ((strconv_FormatUint_55.f (IntKind.u64.wrap (wrap64 (-(wrap64 (a0 + 1))))) 10).bind fun t123 => (if 24 + t123.size ≤ 9223372036854775807 then (some ((⟨#[98, 111, 117, 110, 100, 32, 111, 102, 32, 116, 121, 112, 101, 32, 112, 97, 114, 97, 109, 101, 116, 101, 114, 32]⟩ : ByteArray) ++ t123)) else (none))))) = some r := h
  clear h
  by_cases c2 : a0 ≥ 0
  · rw [if_pos c2] at H
    have c2b0 : decide (0 ≤ a0) = true := decide_eq_true c2
    clear c2
    replace H := Option.bind_eq_some_iff.mp H
    obtain ⟨t122, A30, H⟩ := H
    replace H : (if 9 + t122.size ≤ 9223372036854775807 then (some ((⟨#[97, 114, 103, 117, 109, 101, 110, 116, 32]⟩ : ByteArray) ++ t122)) else (none)) = some r := H
    have A3 := Aside0.mk A30
    clear A30
    by_cases c4 : 9 + t122.size ≤ 9223372036854775807
    · rw [if_pos c4] at H
      have c4b0 := eq_true c4
      have c4b1 : decide (9 + t122.size ≤ 9223372036854775807) = true := decide_eq_true c4
      try have c4b2 : (9223372036854775807 < 9 + t122.size) = False := eq_false (Nat.not_lt.2 c4)
      obtain rfl := Option.some.inj H
      go_enter Tryd.func29, Tryd.ntmps29
      go_wp2_with (first | ((with_reducible refine gate_callee (f := 55) rfl ?_); refine goesL_ (some 9) rfl rfl Tryd.func55 (by kernel_rfl) rfl #[.int .u64 (IntKind.u64.wrap ((IntKind.u64.wrap (a0)) + 1)), .int .i64 10] rfl (by (try simp only [List.map_toArray, List.map_cons, List.map_nil]); first | done | rfl | (simp only [List.length_drop, List.length_take]; rfl)) ?_; (with_reducible refine (strconv_FormatUint_55.calls (IntKind.u64.wrap ((IntKind.u64.wrap (a0)) + 1)) 10 t122 _ ?side1 A3.out).mono ?_); (case side1 => repeat (first | exact (GL_below HG.out HB.out) | exact HG.out | (with_reducible refine GL_alloc ?_ _) | (with_reducible refine GL_drewN ?_ _) | (with_reducible refine GL_drew ?_))); rintro e w5 ⟨rfl, hb⟩; refine ⟨_, rfl, ?_⟩; have n0_ := Aside0.mk (below_step (by repeat (first | (with_reducible first | exact HB.out | apply below_alloc | apply pw_below_drewN | apply below_drew1) | exact HB.out)) hb); clear HB; have HB := n0_; clear n0_; (try clear hb); (try clear hb2); (try clear hk); (try clear hi)))
      go_ret
      exact ⟨by first | rfl | (simp [errW_none, errW_some, erT_no, erV_no, erT_at, erV_at] <;> rfl) | (simp [*, errW_none, errW_some, erT_no, erV_no, erT_at, erV_at] <;> rfl), by repeat (first | (with_reducible first | exact HB.out | apply below_alloc | apply pw_below_drewN | apply below_drew1) | exact HB.out)⟩
    · rw [if_neg c4] at H
      exact absurd H (by simp)
  · rw [if_neg c2] at H
    have c2b0 : decide (0 ≤ a0) = false := decide_eq_false c2
    clear c2
    by_cases c6 : a0 = (-1)
    · rw [if_pos c6] at H
      have c6b0 : (a0 == (-1)) = true := beq_iff_eq.mpr c6
      have c6b1 : (a0 != (-1)) = false := bne_eq_false_iff_eq.mpr c6
      clear c6
      obtain rfl := Option.some.inj H
      go_enter Tryd.func29, Tryd.ntmps29
      go_wp2
      go_ret
      exact ⟨by first | rfl | (simp [errW_none, errW_some, erT_no, erV_no, erT_at, erV_at] <;> rfl) | (simp [*, errW_none, errW_some, erT_no, erV_no, erT_at, erV_at] <;> rfl), by repeat (first | (with_reducible first | exact HB.out | apply below_alloc | apply pw_below_drewN | apply below_drew1) | exact HB.out)⟩
    · rw [if_neg c6] at H
      have c6b0 : (a0 == (-1)) = false := beq_eq_false_iff_ne.mpr c6
      have c6b1 : (a0 != (-1)) = true := bne_iff_ne.mpr c6
      replace H := Option.bind_eq_some_iff.mp H
      obtain ⟨t123, A70, H⟩ := H
      replace H : (if 24 + t123.size ≤ 9223372036854775807 then (some ((⟨#[98, 111, 117, 110, 100, 32, 111, 102, 32, 116, 121, 112, 101, 32, 112, 97, 114, 97, 109, 101, 116, 101, 114, 32]⟩ : ByteArray) ++ t123)) else (none)) = some r := H
      have A7 := Aside0.mk A70
      clear A70
      by_cases c8 : 24 + t123.size ≤ 9223372036854775807
      · rw [if_pos c8] at H
        have c8b0 := eq_true c8
        have c8b1 : decide (24 + t123.size ≤ 9223372036854775807) = true := decide_eq_true c8
        try have c8b2 : (9223372036854775807 < 24 + t123.size) = False := eq_false (Nat.not_lt.2 c8)
        obtain rfl := Option.some.inj H
        go_enter Tryd.func29, Tryd.ntmps29
        go_wp2_with (first | ((with_reducible refine gate_callee (f := 55) rfl ?_); refine goesL_ (some 18) rfl rfl Tryd.func55 (by kernel_rfl) rfl #[.int .u64 (IntKind.u64.wrap (wrap64 (-(wrap64 (a0 + 1))))), .int .i64 10] rfl (by (try simp only [List.map_toArray, List.map_cons, List.map_nil]); first | done | rfl | (simp only [List.length_drop, List.length_take]; rfl)) ?_; (with_reducible refine (strconv_FormatUint_55.calls (IntKind.u64.wrap (wrap64 (-(wrap64 (a0 + 1))))) 10 t123 _ ?side1 A7.out).mono ?_); (case side1 => repeat (first | exact (GL_below HG.out HB.out) | exact HG.out | (with_reducible refine GL_alloc ?_ _) | (with_reducible refine GL_drewN ?_ _) | (with_reducible refine GL_drew ?_))); rintro e w9 ⟨rfl, hb⟩; refine ⟨_, rfl, ?_⟩; have n0_ := Aside0.mk (below_step (by repeat (first | (with_reducible first | exact HB.out | apply below_alloc | apply pw_below_drewN | apply below_drew1) | exact HB.out)) hb); clear HB; have HB := n0_; clear n0_; (try clear hb); (try clear hb2); (try clear hk); (try clear hi)))
        go_ret
        exact ⟨by first | rfl | (simp [errW_none, errW_some, erT_no, erV_no, erT_at, erV_at] <;> rfl) | (simp [*, errW_none, errW_some, erT_no, erV_no, erT_at, erV_at] <;> rfl), by repeat (first | (with_reducible first | exact HB.out | apply below_alloc | apply pw_below_drewN | apply below_drew1) | exact HB.out)⟩
      · rw [if_neg c8] at H
        exact absurd H (by simp)

/-! ### why_Text: function 27 -/
def why_Text.f (a0_0 : ByteArray) (a0_1 : ByteArray) (a0_2 : Int) (a0_3 : Int) (a0_4 : Int) (a0_5 : ByteArray) (l0_6 : List Int) (a0_7 : Int) : Option (ByteArray) := if a0_5.toList = ([] : List UInt8) then ((why_Title.f a0_4).bind fun t125 => (some t125)) else ((why_Title.f a0_4).bind fun t126 => (if t126.size + 2 ≤ 9223372036854775807 then (if (t126 ++ (⟨#[58, 32]⟩ : ByteArray)).size + a0_5.size ≤ 9223372036854775807 then (some ((t126 ++ (⟨#[58, 32]⟩ : ByteArray)) ++ a0_5)) else (none)) else (none)))
def why_Text.T3 : Bool × List (List Nat × List Nat) := (true, [([], []), ([0], [0]), ([1], [1]), ([2], [2]), ([], []), ([4], [4]), ([3, 5], [3, 5]), ([6, 2, 0, 1, 2, 3, 4, 5, 6], [6])])
def why_Text.B3 : List Nat := [0, 1, 3, 7, 0, 16, 63, 127]
theorem why_Text.tab3 : rtab .any (opsOf Tryd.f27 3) = why_Text.T3 := by kernel_rfl
theorem why_Text.bits3 : waitsOk why_Text.T3.2 why_Text.B3 = true := by kernel_rfl
set_option maxHeartbeats 8000000 in
set_option maxRecDepth 100000 in
theorem why_Text.calls (a0_0 : ByteArray) (a0_1 : ByteArray) (a0_2 : Int) (a0_3 : Int) (a0_4 : Int) (a0_5 : ByteArray) (A0_6 : Option Addr) (c0_6 : Nat) (l0_6 : List Int) (a0_7 : Int) (r : ByteArray) (w : World) (hr0_6 : Kd.C (Kd.int .i64) w A0_6 l0_6.length l0_6) (hc0_6 : l0_6.length ≤ c0_6) (h : why_Text.f a0_0 a0_1 a0_2 a0_3 a0_4 a0_5 l0_6 a0_7 = some r) :
    Calls Tryd.prog 27 #[.agg #[.string a0_0, .string a0_1, .int .i64 a0_2, .int .i64 a0_3, .int .i64 a0_4, .string a0_5, .slice A0_6 l0_6.length c0_6, .int .i64 a0_7]] w fun e w' => e = .returned (.string r) ∧ Below w.heap.size w w' := by
  have hu52 := Tryd.underlying52
  have HR0_6 := Aside0.mk hr0_6
  have HC0_6 := Aside0.mk hc0_6
  clear hr0_6 hc0_6
  have HB := Aside0.mk (Below.refl w.heap.size w)
  have H : (if a0_5.toList = ([] : List UInt8) then ((why_Title.f a0_4).bind fun t125 => (some t125)) else ((why_Title.f a0_4).bind fun t126 => (if t126.size + 2 ≤ 9223372036854775807 then (if (t126 ++ (⟨#[58, 32]⟩ : ByteArray)).size + a0_5.size ≤ 9223372036854775807 then (some ((t126 ++ (⟨#[58, 32]⟩ : ByteArray)) ++ a0_5)) else (none)) else (none)))) = some r := h
  clear h
  by_cases c2 : a0_5.toList = ([] : List UInt8)
  · rw [if_pos c2] at H
    have c2b0 : (a0_5.toList == ([] : List UInt8)) = true := beq_iff_eq.mpr c2
    have c2b1 : (a0_5.toList != ([] : List UInt8)) = false := bne_eq_false_iff_eq.mpr c2
    clear c2
    replace H := Option.bind_eq_some_iff.mp H
    obtain ⟨t125, A30, H⟩ := H
    replace H : (some t125) = some r := H
    have A3 := Aside0.mk A30
    clear A30
    obtain rfl := Option.some.inj H
    go_enter Tryd.func27, Tryd.ntmps27
    go_wp2_with (first | ((with_reducible refine gate_dst (N := 1) rfl ?_); refine box_event ?hg (N := 1) ?hd (cs := #[.string a0_0, .string a0_1, .int .i64 a0_2, .int .i64 a0_3, .int .i64 a0_4, .string a0_5, .slice A0_6 l0_6.length c0_6, .int .i64 a0_7]) (t := 52) ?hr ?_; (case hd => rfl); (case hg => rfl); (case hr => first | (go_simp; done) | (go_simp; rfl)); intro gb124 hg w4 hbox hb; have n0_ := Aside0.mk (below_step (by repeat (first | (with_reducible first | exact HB.out | apply below_alloc | apply pw_below_drewN | apply below_drew1) | exact HB.out)) hb); have n1_ := Aside0.mk (hbox); have n2_ := Aside0.mk ((by rw [hg]; exact (below_size (by repeat (first | (with_reducible first | exact HB.out | apply below_alloc | apply pw_below_drewN | apply below_drew1) | exact HB.out))) : w.heap.size ≤ gb124)); have n3_ := Aside0.mk ((by rw [hg]; exact (below_size (by repeat (first | (with_reducible first | exact HB.out | apply below_alloc | apply pw_below_drewN | apply below_drew1) | exact HB.out))) : w.heap.size ≤ gb124)); clear HB; have HB := n0_; have BK124 := n1_; have GW124 := n2_; have GE124 := n3_; clear n0_ n1_ n2_ n3_; clear hb hbox hg; have hcz5_0 : w4.cell? ⟨gb124, 0, none⟩ = some (.string a0_0) := (blk_cell BK124.out 0).trans rfl; have hcz5_1 : w4.cell? ⟨gb124, 1, none⟩ = some (.string a0_1) := (blk_cell BK124.out 1).trans rfl; have hcz5_2 : w4.cell? ⟨gb124, 2, none⟩ = some (.int .i64 a0_2) := (blk_cell BK124.out 2).trans rfl; have hcz5_3 : w4.cell? ⟨gb124, 3, none⟩ = some (.int .i64 a0_3) := (blk_cell BK124.out 3).trans rfl; have hcz5_4 : w4.cell? ⟨gb124, 4, none⟩ = some (.int .i64 a0_4) := (blk_cell BK124.out 4).trans rfl; have hcz5_5 : w4.cell? ⟨gb124, 5, none⟩ = some (.string a0_5) := (blk_cell BK124.out 5).trans rfl; have hcz5_6 : w4.cell? ⟨gb124, 6, none⟩ = some (.slice A0_6 l0_6.length c0_6) := (blk_cell BK124.out 6).trans rfl; have hcz5_7 : w4.cell? ⟨gb124, 7, none⟩ = some (.int .i64 a0_7) := (blk_cell BK124.out 7).trans rfl; have hfz5_0 := blk_frozen BK124.out 0; have hfz5_1 := blk_frozen BK124.out 1; have hfz5_2 := blk_frozen BK124.out 2; have hfz5_3 := blk_frozen BK124.out 3; have hfz5_4 := blk_frozen BK124.out 4; have hfz5_5 := blk_frozen BK124.out 5; have hfz5_6 := blk_frozen BK124.out 6; have hfz5_7 := blk_frozen BK124.out 7) | ((with_reducible refine gate_callee (f := 25) rfl ?_); refine goesL_ (some 8) rfl rfl Tryd.func25 (by kernel_rfl) rfl #[.int .i64 a0_4] rfl (by (try simp only [List.map_toArray, List.map_cons, List.map_nil]); first | done | rfl | (simp only [List.length_drop, List.length_take]; rfl)) ?_; (with_reducible refine (why_Title.calls a0_4 t125 _ A3.out).mono ?_); rintro e w6 ⟨rfl, hb⟩; refine ⟨_, rfl, ?_⟩; have n0_ := Aside0.mk (blk_below (g := gb124) (o := .cells #[.string a0_0, .string a0_1, .int .i64 a0_2, .int .i64 a0_3, .int .i64 a0_4, .string a0_5, .slice A0_6 l0_6.length c0_6, .int .i64 a0_7] 52 (0, 0)) (by (with_reducible repeat (first | refine blk_drewN ?_ _ | refine blk_drew ?_ | refine blk_alloc ?_ _)); exact BK124.out) hb); have n1_ := Aside0.mk (below_step (by repeat (first | (with_reducible first | exact HB.out | apply below_alloc | apply pw_below_drewN | apply below_drew1 | refine below_set ?_ GE124.out) | exact HB.out)) hb); clear BK124; clear HB; have BK124 := n0_; have HB := n1_; clear n0_ n1_; (try clear hb); (try clear hb2); (try clear hk); (try clear hi)))
    go_ret
    exact ⟨by first | rfl | (simp [errW_none, errW_some, erT_no, erV_no, erT_at, erV_at] <;> rfl) | (simp [*, errW_none, errW_some, erT_no, erV_no, erT_at, erV_at] <;> rfl), by repeat (first | (with_reducible first | exact HB.out | apply below_alloc | apply pw_below_drewN | apply below_drew1 | refine below_set ?_ GE124.out) | exact HB.out)⟩
  · rw [if_neg c2] at H
    have c2b0 : (a0_5.toList == ([] : List UInt8)) = false := beq_eq_false_iff_ne.mpr c2
    have c2b1 : (a0_5.toList != ([] : List UInt8)) = true := bne_iff_ne.mpr c2
    replace H := Option.bind_eq_some_iff.mp H
    obtain ⟨t126, A70, H⟩ := H
    replace H : (if t126.size + 2 ≤ 9223372036854775807 then (if (t126 ++ (⟨#[58, 32]⟩ : ByteArray)).size + a0_5.size ≤ 9223372036854775807 then (some ((t126 ++ (⟨#[58, 32]⟩ : ByteArray)) ++ a0_5)) else (none)) else (none)) = some r := H
    have A7 := Aside0.mk A70
    clear A70
    by_cases c8 : t126.size + 2 ≤ 9223372036854775807
    · rw [if_pos c8] at H
      have c8b0 := eq_true c8
      have c8b1 : decide (t126.size + 2 ≤ 9223372036854775807) = true := decide_eq_true c8
      try have c8b2 : (9223372036854775807 < t126.size + 2) = False := eq_false (Nat.not_lt.2 c8)
      by_cases c9 : (t126 ++ (⟨#[58, 32]⟩ : ByteArray)).size + a0_5.size ≤ 9223372036854775807
      · rw [if_pos c9] at H
        have c9b0 := eq_true c9
        have c9b1 : decide ((t126 ++ (⟨#[58, 32]⟩ : ByteArray)).size + a0_5.size ≤ 9223372036854775807) = true := decide_eq_true c9
        try have c9b2 : (9223372036854775807 < (t126 ++ (⟨#[58, 32]⟩ : ByteArray)).size + a0_5.size) = False := eq_false (Nat.not_lt.2 c9)
        have c9b3 : (9223372036854775807 < t126.size + 2 + a0_5.size) = False := eq_false (Nat.not_lt.2 (by have h_ := c9; rw [ByteArray.size_append] at h_; exact h_))
        obtain rfl := Option.some.inj H
        go_enter Tryd.func27, Tryd.ntmps27
        try go_wp2_with (first | ((with_reducible refine gate_dst (N := 1) rfl ?_); refine box_event ?hg (N := 1) ?hd (cs := #[.string a0_0, .string a0_1, .int .i64 a0_2, .int .i64 a0_3, .int .i64 a0_4, .string a0_5, .slice A0_6 l0_6.length c0_6, .int .i64 a0_7]) (t := 52) ?hr ?_; (case hd => rfl); (case hg => rfl); (case hr => first | (go_simp; done) | (go_simp; rfl)); intro gb124 hg w10 hbox hb; have n0_ := Aside0.mk (below_step (by repeat (first | (with_reducible first | exact HB.out | apply below_alloc | apply pw_below_drewN | apply below_drew1) | exact HB.out)) hb); have n1_ := Aside0.mk (hbox); have n2_ := Aside0.mk ((by rw [hg]; exact (below_size (by repeat (first | (with_reducible first | exact HB.out | apply below_alloc | apply pw_below_drewN | apply below_drew1) | exact HB.out))) : w.heap.size ≤ gb124)); have n3_ := Aside0.mk ((by rw [hg]; exact (below_size (by repeat (first | (with_reducible first | exact HB.out | apply below_alloc | apply pw_below_drewN | apply below_drew1) | exact HB.out))) : w.heap.size ≤ gb124)); clear HB; have HB := n0_; have BK124 := n1_; have GW124 := n2_; have GE124 := n3_; clear n0_ n1_ n2_ n3_; clear hb hbox hg; have hcz11_0 : w10.cell? ⟨gb124, 0, none⟩ = some (.string a0_0) := (blk_cell BK124.out 0).trans rfl; have hcz11_1 : w10.cell? ⟨gb124, 1, none⟩ = some (.string a0_1) := (blk_cell BK124.out 1).trans rfl; have hcz11_2 : w10.cell? ⟨gb124, 2, none⟩ = some (.int .i64 a0_2) := (blk_cell BK124.out 2).trans rfl; have hcz11_3 : w10.cell? ⟨gb124, 3, none⟩ = some (.int .i64 a0_3) := (blk_cell BK124.out 3).trans rfl; have hcz11_4 : w10.cell? ⟨gb124, 4, none⟩ = some (.int .i64 a0_4) := (blk_cell BK124.out 4).trans rfl; have hcz11_5 : w10.cell? ⟨gb124, 5, none⟩ = some (.string a0_5) := (blk_cell BK124.out 5).trans rfl; have hcz11_6 : w10.cell? ⟨gb124, 6, none⟩ = some (.slice A0_6 l0_6.length c0_6) := (blk_cell BK124.out 6).trans rfl; have hcz11_7 : w10.cell? ⟨gb124, 7, none⟩ = some (.int .i64 a0_7) := (blk_cell BK124.out 7).trans rfl; have hfz11_0 := blk_frozen BK124.out 0; have hfz11_1 := blk_frozen BK124.out 1; have hfz11_2 := blk_frozen BK124.out 2; have hfz11_3 := blk_frozen BK124.out 3; have hfz11_4 := blk_frozen BK124.out 4; have hfz11_5 := blk_frozen BK124.out 5; have hfz11_6 := blk_frozen BK124.out 6; have hfz11_7 := blk_frozen BK124.out 7))
        have n0_ := Aside0.mk (blk_drew BK124.out)
        have n1_ := Aside0.mk (below_drew1 HB.out)
        clear BK124
        clear HB
        have BK124 := n0_
        have HB := n1_
        clear n0_ n1_
        refine start_ (n := 8) (S := fun w' => w'.cell? ⟨gb124, 0, none⟩ = some (.string a0_0) ∧ w'.cell? ⟨gb124, 1, none⟩ = some (.string a0_1) ∧ w'.cell? ⟨gb124, 2, none⟩ = some (.int .i64 a0_2) ∧ w'.cell? ⟨gb124, 3, none⟩ = some (.int .i64 a0_3) ∧ w'.cell? ⟨gb124, 4, none⟩ = some (.int .i64 a0_4) ∧ w'.cell? ⟨gb124, 5, none⟩ = some (.string a0_5) ∧ w'.cell? ⟨gb124, 6, none⟩ = some (.slice A0_6 l0_6.length c0_6) ∧ w'.cell? ⟨gb124, 7, none⟩ = some (.int .i64 a0_7)) (ds := []) #[false, false, false, false, false, false, false, false] (by kernel_rfl) rfl rfl ⟨(blk_cell BK124.out 0).trans rfl, (blk_cell BK124.out 1).trans rfl, (blk_cell BK124.out 2).trans rfl, (blk_cell BK124.out 3).trans rfl, (blk_cell BK124.out 4).trans rfl, (blk_cell BK124.out 5).trans rfl, (blk_cell BK124.out 6).trans rfl, (blk_cell BK124.out 7).trans rfl⟩ (fun hHeld => ?_); refine with_tabW why_Text.tab3 why_Text.bits3 (fun HT_ HW_ => ?_)
        generalize w10.drew = w12 at BK124 HB hHeld ⊢
        refine pure_ (i := 0) (N := some 9) (v := ?_) (a' := ?_) #[true, false, false, false, false, false, false, false] rfl rfl (any_of HT_.out (by kernel_rfl)) (fun _ _ _ h => h) (Or.inl ⟨by rfl, ?_⟩) ?_ ?_
        rotate_left
        · intro w'
          go_simp
          with_reducible rfl
        rotate_left
        · simp only [Act.put, List.setIfInBounds_toArray, List.set_cons_zero, List.set_cons_succ, i64_w, i32_w]
          rfl
        refine pure_ (i := 4) (N := some 13) (v := ?_) (a' := ?_) #[true, false, false, false, true, false, false, false] rfl rfl (any_of HT_.out (by kernel_rfl)) (fun _ _ _ h => h) (Or.inl ⟨by rfl, ?_⟩) ?_ ?_
        rotate_left
        · intro w'
          go_simp
          with_reducible rfl
        rotate_left
        · simp only [Act.put, List.setIfInBounds_toArray, List.set_cons_zero, List.set_cons_succ, i64_w, i32_w]
          rfl
        refine take_ (i := 1) (N := some 10) (v := ?_) (a' := ?_) #[true, true, false, false, true, false, false, false] rfl rfl (take_ofW HT_.out HW_.out (by kernel_rfl)) (fun _ _ _ h => h) (Or.inl ⟨by rfl, ?_⟩) hHeld ?_ ?_
        rotate_left
        · rintro w' ⟨s0, s1, s2, s3, s4, s5, s6, s7⟩
          go_simp
          with_reducible rfl
        rotate_left
        · simp only [Act.put, List.setIfInBounds_toArray, List.set_cons_zero, List.set_cons_succ, i64_w, i32_w]
          rfl
        refine take_ (i := 5) (N := some 14) (v := ?_) (a' := ?_) #[true, true, false, false, true, true, false, false] rfl rfl (take_ofW HT_.out HW_.out (by kernel_rfl)) (fun _ _ _ h => h) (Or.inl ⟨by rfl, ?_⟩) hHeld ?_ ?_
        rotate_left
        · rintro w' ⟨s0, s1, s2, s3, s4, s5, s6, s7⟩
          go_simp
          with_reducible rfl
        rotate_left
        · simp only [Act.put, List.setIfInBounds_toArray, List.set_cons_zero, List.set_cons_succ, i64_w, i32_w]
          rfl
        refine one_ (i := 2) (N := some 11) #[true, true, true, false, true, true, false, false] rfl rfl (one_of HT_.out (by kernel_rfl)) (by decide) (fun K hK => ?_)
        refine goes_ Tryd.func25 (by kernel_rfl) rfl #[.int .i64 a0_4] (by rfl) rfl rfl (by (try simp only [List.map_toArray, List.map_cons, List.map_nil]); first | done | rfl | (simp only [List.length_drop, List.length_take]; rfl)) ?_
        with_reducible refine (why_Title.calls a0_4 t126 _ A7.out).mono ?_
        rintro e w13 ⟨rfl, hb⟩
        refine ⟨_, rfl, ?_⟩
        have n0_ := Aside0.mk (blk_below (g := gb124) (o := .cells #[.string a0_0, .string a0_1, .int .i64 a0_2, .int .i64 a0_3, .int .i64 a0_4, .string a0_5, .slice A0_6 l0_6.length c0_6, .int .i64 a0_7] 52 (0, 0)) (by (with_reducible repeat (first | refine blk_drewN ?_ _ | refine blk_drew ?_ | refine blk_alloc ?_ _)); exact BK124.out) hb)
        have n1_ := Aside0.mk (below_step (by repeat (first | (with_reducible first | exact HB.out | apply below_alloc | apply pw_below_drewN | apply below_drew1 | refine below_set ?_ GE124.out) | exact HB.out)) hb)
        clear BK124
        clear HB
        have BK124 := n0_
        have HB := n1_
        clear n0_ n1_
        (try clear hb)
        (try clear hb2)
        (try clear hk)
        (try clear hi)
        refine hK.out _ _ ⟨(blk_cell BK124.out 0).trans rfl, (blk_cell BK124.out 1).trans rfl, (blk_cell BK124.out 2).trans rfl, (blk_cell BK124.out 3).trans rfl, (blk_cell BK124.out 4).trans rfl, (blk_cell BK124.out 5).trans rfl, (blk_cell BK124.out 6).trans rfl, (blk_cell BK124.out 7).trans rfl⟩ (fun hHeld => ?_)
        clear hK K
        refine norm_ (a' := ?_) ?_ ?_
        rotate_left
        · show Act.put _ (some 11) _ = _
          simp only [Act.put, List.setIfInBounds_toArray, List.set_cons_zero, List.set_cons_succ, i64_w, i32_w]
          rfl
        refine pure_ (i := 3) (N := some 12) (v := ?_) (a' := ?_) #[true, true, true, true, true, true, false, false] rfl rfl (any_of HT_.out (by kernel_rfl)) (fun _ _ _ h => h) (Or.inl ⟨by rfl, ?_⟩) ?_ ?_
        rotate_left
        · intro w'
          go_simp
          with_reducible rfl
        rotate_left
        · simp only [Act.put, List.setIfInBounds_toArray, List.set_cons_zero, List.set_cons_succ, i64_w, i32_w]
          rfl
        refine pure_ (i := 6) (N := some 15) (v := ?_) (a' := ?_) #[true, true, true, true, true, true, true, false] rfl rfl (any_of HT_.out (by kernel_rfl)) (fun _ _ _ h => h) (Or.inl ⟨by rfl, ?_⟩) ?_ ?_
        rotate_left
        · intro w'
          go_simp
          with_reducible rfl
        rotate_left
        · simp only [Act.put, List.setIfInBounds_toArray, List.set_cons_zero, List.set_cons_succ, i64_w, i32_w]
          rfl
        refine pure_ (i := 7) (N := some 2) (v := ?_) (a' := ?_) #[true, true, true, true, true, true, true, true] rfl rfl (any_of HT_.out (by kernel_rfl)) (fun _ _ _ h => h) (Or.inl ⟨by rfl, ?_⟩) ?_ ?_
        rotate_left
        · intro w'
          go_simp
          with_reducible rfl
        rotate_left
        · simp only [Act.put, List.setIfInBounds_toArray, List.set_cons_zero, List.set_cons_succ, i64_w, i32_w]
          rfl
        refine done_ (done_of HT_.out (by kernel_rfl)) ?_
        try go_wp2
        go_ret
        exact ⟨by first | rfl | (simp [errW_none, errW_some, erT_no, erV_no, erT_at, erV_at] <;> rfl) | (simp [*, errW_none, errW_some, erT_no, erV_no, erT_at, erV_at] <;> rfl), by repeat (first | (with_reducible first | exact HB.out | apply below_alloc | apply pw_below_drewN | apply below_drew1 | refine below_set ?_ GE124.out) | exact HB.out)⟩
      · rw [if_neg c9] at H
        exact absurd H (by simp)
    · rw [if_neg c8] at H
      exact absurd H (by simp)

/-! ### cavillaw33_works: function 31 -/
def cavillaw33_works.f  : Option (Bool) := (why_Text.f (⟨#[]⟩ : ByteArray) (⟨#[]⟩ : ByteArray) 0 0 2 (⟨#[120]⟩ : ByteArray) ([] : List Int) 0).bind fun t127 => (if t127.toList = ([117, 110, 100, 101, 102, 105, 110, 101, 100, 58, 32, 120] : List UInt8) then ((why_Step.f (-3)).bind fun t128 => (some (t128.toList == ([98, 111, 117, 110, 100, 32, 111, 102, 32, 116, 121, 112, 101, 32, 112, 97, 114, 97, 109, 101, 116, 101, 114, 32, 50] : List UInt8)))) else (none))
set_option maxHeartbeats 8000000 in
set_option maxRecDepth 100000 in
theorem cavillaw33_works.calls  (r : Bool) (w : World) (hG : GL_ w) (h : cavillaw33_works.f  = some r) :
    Calls Tryd.prog 31 #[] w fun e w' => e = .returned (.bool r) ∧ Below w.heap.size w w' := by
  have hu52 := Tryd.underlying52
  have HB := Aside0.mk (Below.refl w.heap.size w)
  have HG := Aside0.mk hG
  clear hG
  have H : ((why_Text.f (⟨#[]⟩ : ByteArray) (⟨#[]⟩ : ByteArray) 0 0 2 (⟨#[120]⟩ : ByteArray) ([] : List Int) 0).bind fun t127 => (if t127.toList = ([117, 110, 100, 101, 102, 105, 110, 101, 100, 58, 32, 120] : List UInt8) then ((why_Step.f (-3)).bind fun t128 => (some (t128.toList == ([98, 111, 117, 110, 100, 32, 111, 102, 32, 116, 121, 112, 101, 32, 112, 97, 114, 97, 109, 101, 116, 101, 114, 32, 50] : List UInt8)))) else (none))) = some r := h
  clear h
  replace H := Option.bind_eq_some_iff.mp H
  obtain ⟨t127, A10, H⟩ := H
  replace H : (if t127.toList = ([117, 110, 100, 101, 102, 105, 110, 101, 100, 58, 32, 120] : List UInt8) then ((why_Step.f (-3)).bind fun t128 => (some (t128.toList == ([98, 111, 117, 110, 100, 32, 111, 102, 32, 116, 121, 112, 101, 32, 112, 97, 114, 97, 109, 101, 116, 101, 114, 32, 50] : List UInt8)))) else (none)) = some r := H
  have A1 := Aside0.mk A10
  clear A10
  by_cases c2 : t127.toList = ([117, 110, 100, 101, 102, 105, 110, 101, 100, 58, 32, 120] : List UInt8)
  · rw [if_pos c2] at H
    have c2b0 : (t127.toList == ([117, 110, 100, 101, 102, 105, 110, 101, 100, 58, 32, 120] : List UInt8)) = true := beq_iff_eq.mpr c2
    have c2b1 : (t127.toList != ([117, 110, 100, 101, 102, 105, 110, 101, 100, 58, 32, 120] : List UInt8)) = false := bne_eq_false_iff_eq.mpr c2
    clear c2
    replace H := Option.bind_eq_some_iff.mp H
    obtain ⟨t128, A30, H⟩ := H
    replace H : (some (t128.toList == ([98, 111, 117, 110, 100, 32, 111, 102, 32, 116, 121, 112, 101, 32, 112, 97, 114, 97, 109, 101, 116, 101, 114, 32, 50] : List UInt8))) = some r := H
    have A3 := Aside0.mk A30
    clear A30
    obtain rfl := Option.some.inj H
    go_enter Tryd.func31, Tryd.ntmps31
    go_wp2_with (first | ((with_reducible refine gate_callee (f := 27) rfl ?_); refine goesL_ (some 2) rfl rfl Tryd.func27 (by kernel_rfl) rfl #[.agg #[.string (⟨#[]⟩ : ByteArray), .string (⟨#[]⟩ : ByteArray), .int .i64 0, .int .i64 0, .int .i64 2, .string (⟨#[120]⟩ : ByteArray), .slice none 0 0, .int .i64 0]] rfl (by (try simp only [List.map_toArray, List.map_cons, List.map_nil]); first | done | rfl | (simp only [List.length_drop, List.length_take]; rfl)) ?_; (refine (why_Text.calls (⟨#[]⟩ : ByteArray) (⟨#[]⟩ : ByteArray) 0 0 2 (⟨#[120]⟩ : ByteArray) _ _ ([] : List Int) 0 t127 _ ?side1 ?side2 A1.out).mono ?_); (case side1 => exact Kd.C_nil _ _); (case side2 => exact Nat.le_refl _); rintro e w4 ⟨rfl, hb⟩; refine ⟨_, rfl, ?_⟩; have n0_ := Aside0.mk (below_step (by repeat (first | (with_reducible first | exact HB.out | apply below_alloc | apply pw_below_drewN | apply below_drew1) | exact HB.out)) hb); clear HB; have HB := n0_; clear n0_; (try clear hb); (try clear hb2); (try clear hk); (try clear hi)) | (go_at_call 29; (with_reducible refine (why_Step.calls (-3) t128 _ ?side1 A3.out).mono ?_); (case side1 => repeat (first | exact (GL_below HG.out HB.out) | exact HG.out | (with_reducible refine GL_alloc ?_ _) | (with_reducible refine GL_drewN ?_ _) | (with_reducible refine GL_drew ?_))); rintro e w5 ⟨rfl, hb⟩; have n0_ := Aside0.mk (below_step (by repeat (first | (with_reducible first | exact HB.out | apply below_alloc | apply pw_below_drewN | apply below_drew1) | exact HB.out)) hb); clear HB; have HB := n0_; clear n0_; (try clear hb); (try clear hb2); (try clear hk); (try clear hi)))
    go_ret
    exact ⟨by first | rfl | (simp [errW_none, errW_some, erT_no, erV_no, erT_at, erV_at] <;> rfl) | (simp [*, errW_none, errW_some, erT_no, erV_no, erT_at, erV_at] <;> rfl), by repeat (first | (with_reducible first | exact HB.out | apply below_alloc | apply pw_below_drewN | apply below_drew1) | exact HB.out)⟩
  · rw [if_neg c2] at H
    exact absurd H (by simp)

/-! ### cavillaw33_WhyUnlike: function 6 -/
def cavillaw33_WhyUnlike.j0 : Nat → Int → Int → Bool → Option (Bool)
  | 0, _, _, _ => none
  | k + 1, x7, x8, x61 => if x61 = true then (some false) else ((why_Step.f (wrap64 (x7))).bind fun t132 => ((why_Step.f (wrap64 (x8))).bind fun t133 => (if ((x7 == x8) == (t132.toList == t133.toList)) = true then ((cavillaw33_works.f).bind fun t134 => (some t134)) else (some false))))
def cavillaw33_WhyUnlike.f (k : Nat) (a0 : Int) (a1 : Int) (a2_0 : Int) (a2_1 : Int) : Option (Bool) := (why_Title.f (wrap64 (a0))).bind fun t130 => ((why_Title.f (wrap64 (a1))).bind fun t131 => (if (wrap64 (a0)) ≥ 1 then (if (wrap64 (a0)) ≤ 52 then (if (wrap64 (a1)) ≤ 52 then (if a0 = a1 then (if t130.toList = ([] : List UInt8) then (cavillaw33_WhyUnlike.j0 k a2_0 a2_1 true) else (cavillaw33_WhyUnlike.j0 k a2_0 a2_1 (t130.toList == ([63] : List UInt8)))) else (if t130.toList = t131.toList then (cavillaw33_WhyUnlike.j0 k a2_0 a2_1 true) else (if t130.toList = ([] : List UInt8) then (cavillaw33_WhyUnlike.j0 k a2_0 a2_1 true) else (cavillaw33_WhyUnlike.j0 k a2_0 a2_1 (t130.toList == ([63] : List UInt8)))))) else (if t130.toList = ([] : List UInt8) then (cavillaw33_WhyUnlike.j0 k a2_0 a2_1 true) else (cavillaw33_WhyUnlike.j0 k a2_0 a2_1 (t130.toList == ([63] : List UInt8))))) else (cavillaw33_WhyUnlike.j0 k a2_0 a2_1 false)) else (cavillaw33_WhyUnlike.j0 k a2_0 a2_1 false)))
theorem cavillaw33_WhyUnlike.mono_l : ∀ k, (∀ y0 y1 y2, LeO (cavillaw33_WhyUnlike.j0 k y0 y1 y2) (cavillaw33_WhyUnlike.j0 (k + 1) y0 y1 y2))
  | 0 => fun _ _ _ r h => by simp [cavillaw33_WhyUnlike.j0] at h
  | k + 1 => by
    have ih0 := cavillaw33_WhyUnlike.mono_l k
    · intro y0 y1 y2
      unfold cavillaw33_WhyUnlike.j0
      repeat' first
      | (with_reducible exact ih0 _ _ _)
      | (with_reducible exact LeO.refl _)
      | (with_reducible exact LeO.none _)
      | (with_reducible refine LeO.ite ?_ ?_)
      | (with_reducible refine LeO.bind ?_ (fun _ => ?_))
      | exact ih0 _ _ _
      | exact LeO.none _
      | refine LeO.ite ?_ ?_
      | refine LeO.bind ?_ (fun _ => ?_)
theorem cavillaw33_WhyUnlike.mono : ∀ a0 a1 a2 a3 k, LeO (cavillaw33_WhyUnlike.f k a0 a1 a2 a3) (cavillaw33_WhyUnlike.f (k + 1) a0 a1 a2 a3) := by
  intro a0 a1 a2 a3 k
  have ih0 := cavillaw33_WhyUnlike.mono_l k
  unfold cavillaw33_WhyUnlike.f
  repeat' first
      | (with_reducible exact ih0 _ _ _)
      | (with_reducible exact LeO.refl _)
      | (with_reducible exact LeO.none _)
      | (with_reducible refine LeO.ite ?_ ?_)
      | (with_reducible refine LeO.bind ?_ (fun _ => ?_))
      | exact ih0 _ _ _
      | exact LeO.none _
      | refine LeO.ite ?_ ?_
      | refine LeO.bind ?_ (fun _ => ?_)
set_option maxHeartbeats 8000000 in
set_option maxRecDepth 100000 in
theorem cavillaw33_WhyUnlike.calls (k : Nat) (a0 : Int) (a1 : Int) (a2_0 : Int) (a2_1 : Int) (r : Bool) (w : World) (hG : GL_ w) (h : cavillaw33_WhyUnlike.f k a0 a1 a2_0 a2_1 = some r) (hrt : r = true) :
    Calls Tryd.prog 6 #[.int .u8 a0, .int .u8 a1, .agg #[.int .i16 a2_0, .int .i16 a2_1]] w fun e w' => e = .returned (.bool r) ∧ Below w.heap.size w w' := by
  have HRT := Aside0.mk hrt
  clear hrt
  have hu58 := Tryd.underlying58
  have HB := Aside0.mk (Below.refl w.heap.size w)
  have HG := Aside0.mk hG
  clear hG
  have H : ((why_Title.f (wrap64 (a0))).bind fun t130 => ((why_Title.f (wrap64 (a1))).bind fun t131 => (if (wrap64 (a0)) ≥ 1 then (if (wrap64 (a0)) ≤ 52 then (if (wrap64 (a1)) ≤ 52 then (if a0 = a1 then (if t130.toList = ([] : List UInt8) then (cavillaw33_WhyUnlike.j0 k a2_0 a2_1 true) else (cavillaw33_WhyUnlike.j0 k a2_0 a2_1 (t130.toList == ([63] : List UInt8)))) else (if t130.toList = t131.toList then (cavillaw33_WhyUnlike.j0 k a2_0 a2_1 true) else (if t130.toList = ([] : List UInt8) then (cavillaw33_WhyUnlike.j0 k a2_0 a2_1 true) else (cavillaw33_WhyUnlike.j0 k a2_0 a2_1 (t130.toList == ([63] : List UInt8)))))) else (if t130.toList = ([] : List UInt8) then (cavillaw33_WhyUnlike.j0 k a2_0 a2_1 true) else (cavillaw33_WhyUnlike.j0 k a2_0 a2_1 (t130.toList == ([63] : List UInt8))))) else (cavillaw33_WhyUnlike.j0 k a2_0 a2_1 false)) else (cavillaw33_WhyUnlike.j0 k a2_0 a2_1 false)))) = some r := h
  clear h
  replace H := Option.bind_eq_some_iff.mp H
  obtain ⟨t130, A40, H⟩ := H
  replace H : ((why_Title.f (wrap64 (a1))).bind fun t131 => (if (wrap64 (a0)) ≥ 1 then (if (wrap64 (a0)) ≤ 52 then (if (wrap64 (a1)) ≤ 52 then (if a0 = a1 then (if t130.toList = ([] : List UInt8) then (cavillaw33_WhyUnlike.j0 k a2_0 a2_1 true) else (cavillaw33_WhyUnlike.j0 k a2_0 a2_1 (t130.toList == ([63] : List UInt8)))) else (if t130.toList = t131.toList then (cavillaw33_WhyUnlike.j0 k a2_0 a2_1 true) else (if t130.toList = ([] : List UInt8) then (cavillaw33_WhyUnlike.j0 k a2_0 a2_1 true) else (cavillaw33_WhyUnlike.j0 k a2_0 a2_1 (t130.toList == ([63] : List UInt8)))))) else (if t130.toList = ([] : List UInt8) then (cavillaw33_WhyUnlike.j0 k a2_0 a2_1 true) else (cavillaw33_WhyUnlike.j0 k a2_0 a2_1 (t130.toList == ([63] : List UInt8))))) else (cavillaw33_WhyUnlike.j0 k a2_0 a2_1 false)) else (cavillaw33_WhyUnlike.j0 k a2_0 a2_1 false))) = some r := H
  have A4 := Aside0.mk A40
  clear A40
  replace H := Option.bind_eq_some_iff.mp H
  obtain ⟨t131, A50, H⟩ := H
  replace H : (if (wrap64 (a0)) ≥ 1 then (if (wrap64 (a0)) ≤ 52 then (if (wrap64 (a1)) ≤ 52 then (if a0 = a1 then (if t130.toList = ([] : List UInt8) then (cavillaw33_WhyUnlike.j0 k a2_0 a2_1 true) else (cavillaw33_WhyUnlike.j0 k a2_0 a2_1 (t130.toList == ([63] : List UInt8)))) else (if t130.toList = t131.toList then (cavillaw33_WhyUnlike.j0 k a2_0 a2_1 true) else (if t130.toList = ([] : List UInt8) then (cavillaw33_WhyUnlike.j0 k a2_0 a2_1 true) else (cavillaw33_WhyUnlike.j0 k a2_0 a2_1 (t130.toList == ([63] : List UInt8)))))) else (if t130.toList = ([] : List UInt8) then (cavillaw33_WhyUnlike.j0 k a2_0 a2_1 true) else (cavillaw33_WhyUnlike.j0 k a2_0 a2_1 (t130.toList == ([63] : List UInt8))))) else (cavillaw33_WhyUnlike.j0 k a2_0 a2_1 false)) else (cavillaw33_WhyUnlike.j0 k a2_0 a2_1 false)) = some r := H
  have A5 := Aside0.mk A50
  clear A50
  have HC6 := Aside0.mk H
  clear H
  go_enter Tryd.func6, Tryd.ntmps6
  go_upto_region 3 with (first | ((with_reducible refine gate_dst (N := 5) rfl ?_); refine box_event ?hg (N := 5) ?hd (cs := #[.int .i16 a2_0, .int .i16 a2_1]) (t := 58) ?hr ?_; (case hd => rfl); (case hg => rfl); (case hr => first | (go_simp; done) | (go_simp; rfl)); intro gb129 hg w7 hbox hb; have n0_ := Aside0.mk (below_step (by repeat (first | (with_reducible first | exact HB.out | apply below_alloc | apply pw_below_drewN | apply below_drew1) | exact HB.out)) hb); have n1_ := Aside0.mk (hbox); have n2_ := Aside0.mk ((by rw [hg]; exact (below_size (by repeat (first | (with_reducible first | exact HB.out | apply below_alloc | apply pw_below_drewN | apply below_drew1) | exact HB.out))) : w.heap.size ≤ gb129)); have n3_ := Aside0.mk ((by rw [hg]; exact (below_size (by repeat (first | (with_reducible first | exact HB.out | apply below_alloc | apply pw_below_drewN | apply below_drew1) | exact HB.out))) : w.heap.size ≤ gb129)); clear HB; have HB := n0_; have BK129 := n1_; have GW129 := n2_; have GE129 := n3_; clear n0_ n1_ n2_ n3_; clear hb hbox hg; have hcz8_0 : w7.cell? ⟨gb129, 0, none⟩ = some (.int .i16 a2_0) := (blk_cell BK129.out 0).trans rfl; have hcz8_1 : w7.cell? ⟨gb129, 1, none⟩ = some (.int .i16 a2_1) := (blk_cell BK129.out 1).trans rfl; have hfz8_0 := blk_frozen BK129.out 0; have hfz8_1 := blk_frozen BK129.out 1) | (go_at_call 25; (with_reducible refine (why_Title.calls (wrap64 (a0)) t130 _ A4.out).mono ?_); rintro e w9 ⟨rfl, hb⟩; have n0_ := Aside0.mk (blk_below (g := gb129) (o := .cells #[.int .i16 a2_0, .int .i16 a2_1] 58 (0, 0)) (by (with_reducible repeat (first | refine blk_drewN ?_ _ | refine blk_drew ?_ | refine blk_alloc ?_ _)); exact BK129.out) hb); have n1_ := Aside0.mk (below_step (by repeat (first | (with_reducible first | exact HB.out | apply below_alloc | apply pw_below_drewN | apply below_drew1 | refine below_set ?_ GE129.out) | exact HB.out)) hb); clear BK129; clear HB; have BK129 := n0_; have HB := n1_; clear n0_ n1_; (try clear hb); (try clear hb2); (try clear hk); (try clear hi)) | (go_at_call 25; (with_reducible refine (why_Title.calls (wrap64 (a1)) t131 _ A5.out).mono ?_); rintro e w10 ⟨rfl, hb⟩; have n0_ := Aside0.mk (blk_below (g := gb129) (o := .cells #[.int .i16 a2_0, .int .i16 a2_1] 58 (0, 0)) (by (with_reducible repeat (first | refine blk_drewN ?_ _ | refine blk_drew ?_ | refine blk_alloc ?_ _)); exact BK129.out) hb); have n1_ := Aside0.mk (below_step (by repeat (first | (with_reducible first | exact HB.out | apply below_alloc | apply pw_below_drewN | apply below_drew1 | refine below_set ?_ GE129.out) | exact HB.out)) hb); clear BK129; clear HB; have BK129 := n0_; have HB := n1_; clear n0_ n1_; (try clear hb); (try clear hb2); (try clear hk); (try clear hi)))
  repeat (go_quiet (first | ((with_reducible refine gate_dst (N := 5) rfl ?_); refine box_event ?hg (N := 5) ?hd (cs := #[.int .i16 a2_0, .int .i16 a2_1]) (t := 58) ?hr ?_; (case hd => rfl); (case hg => rfl); (case hr => first | (go_simp; done) | (go_simp; rfl)); intro gb129 hg w7 hbox hb; have n0_ := Aside0.mk (below_step (by repeat (first | (with_reducible first | exact HB.out | apply below_alloc | apply pw_below_drewN | apply below_drew1) | exact HB.out)) hb); have n1_ := Aside0.mk (hbox); have n2_ := Aside0.mk ((by rw [hg]; exact (below_size (by repeat (first | (with_reducible first | exact HB.out | apply below_alloc | apply pw_below_drewN | apply below_drew1) | exact HB.out))) : w.heap.size ≤ gb129)); have n3_ := Aside0.mk ((by rw [hg]; exact (below_size (by repeat (first | (with_reducible first | exact HB.out | apply below_alloc | apply pw_below_drewN | apply below_drew1) | exact HB.out))) : w.heap.size ≤ gb129)); clear HB; have HB := n0_; have BK129 := n1_; have GW129 := n2_; have GE129 := n3_; clear n0_ n1_ n2_ n3_; clear hb hbox hg; have hcz8_0 : w7.cell? ⟨gb129, 0, none⟩ = some (.int .i16 a2_0) := (blk_cell BK129.out 0).trans rfl; have hcz8_1 : w7.cell? ⟨gb129, 1, none⟩ = some (.int .i16 a2_1) := (blk_cell BK129.out 1).trans rfl; have hfz8_0 := blk_frozen BK129.out 0; have hfz8_1 := blk_frozen BK129.out 1) | (go_at_call 25; (with_reducible refine (why_Title.calls (wrap64 (a0)) t130 _ A4.out).mono ?_); rintro e w9 ⟨rfl, hb⟩; have n0_ := Aside0.mk (blk_below (g := gb129) (o := .cells #[.int .i16 a2_0, .int .i16 a2_1] 58 (0, 0)) (by (with_reducible repeat (first | refine blk_drewN ?_ _ | refine blk_drew ?_ | refine blk_alloc ?_ _)); exact BK129.out) hb); have n1_ := Aside0.mk (below_step (by repeat (first | (with_reducible first | exact HB.out | apply below_alloc | apply pw_below_drewN | apply below_drew1 | refine below_set ?_ GE129.out) | exact HB.out)) hb); clear BK129; clear HB; have BK129 := n0_; have HB := n1_; clear n0_ n1_; (try clear hb); (try clear hb2); (try clear hk); (try clear hi)) | (go_at_call 25; (with_reducible refine (why_Title.calls (wrap64 (a1)) t131 _ A5.out).mono ?_); rintro e w10 ⟨rfl, hb⟩; have n0_ := Aside0.mk (blk_below (g := gb129) (o := .cells #[.int .i16 a2_0, .int .i16 a2_1] 58 (0, 0)) (by (with_reducible repeat (first | refine blk_drewN ?_ _ | refine blk_drew ?_ | refine blk_alloc ?_ _)); exact BK129.out) hb); have n1_ := Aside0.mk (below_step (by repeat (first | (with_reducible first | exact HB.out | apply below_alloc | apply pw_below_drewN | apply below_drew1 | refine below_set ?_ GE129.out) | exact HB.out)) hb); clear BK129; clear HB; have BK129 := n0_; have HB := n1_; clear n0_ n1_; (try clear hb); (try clear hb2); (try clear hk); (try clear hi))); go_upto_region 3 with (first | ((with_reducible refine gate_dst (N := 5) rfl ?_); refine box_event ?hg (N := 5) ?hd (cs := #[.int .i16 a2_0, .int .i16 a2_1]) (t := 58) ?hr ?_; (case hd => rfl); (case hg => rfl); (case hr => first | (go_simp; done) | (go_simp; rfl)); intro gb129 hg w7 hbox hb; have n0_ := Aside0.mk (below_step (by repeat (first | (with_reducible first | exact HB.out | apply below_alloc | apply pw_below_drewN | apply below_drew1) | exact HB.out)) hb); have n1_ := Aside0.mk (hbox); have n2_ := Aside0.mk ((by rw [hg]; exact (below_size (by repeat (first | (with_reducible first | exact HB.out | apply below_alloc | apply pw_below_drewN | apply below_drew1) | exact HB.out))) : w.heap.size ≤ gb129)); have n3_ := Aside0.mk ((by rw [hg]; exact (below_size (by repeat (first | (with_reducible first | exact HB.out | apply below_alloc | apply pw_below_drewN | apply below_drew1) | exact HB.out))) : w.heap.size ≤ gb129)); clear HB; have HB := n0_; have BK129 := n1_; have GW129 := n2_; have GE129 := n3_; clear n0_ n1_ n2_ n3_; clear hb hbox hg; have hcz8_0 : w7.cell? ⟨gb129, 0, none⟩ = some (.int .i16 a2_0) := (blk_cell BK129.out 0).trans rfl; have hcz8_1 : w7.cell? ⟨gb129, 1, none⟩ = some (.int .i16 a2_1) := (blk_cell BK129.out 1).trans rfl; have hfz8_0 := blk_frozen BK129.out 0; have hfz8_1 := blk_frozen BK129.out 1) | (go_at_call 25; (with_reducible refine (why_Title.calls (wrap64 (a0)) t130 _ A4.out).mono ?_); rintro e w9 ⟨rfl, hb⟩; have n0_ := Aside0.mk (blk_below (g := gb129) (o := .cells #[.int .i16 a2_0, .int .i16 a2_1] 58 (0, 0)) (by (with_reducible repeat (first | refine blk_drewN ?_ _ | refine blk_drew ?_ | refine blk_alloc ?_ _)); exact BK129.out) hb); have n1_ := Aside0.mk (below_step (by repeat (first | (with_reducible first | exact HB.out | apply below_alloc | apply pw_below_drewN | apply below_drew1 | refine below_set ?_ GE129.out) | exact HB.out)) hb); clear BK129; clear HB; have BK129 := n0_; have HB := n1_; clear n0_ n1_; (try clear hb); (try clear hb2); (try clear hk); (try clear hi)) | (go_at_call 25; (with_reducible refine (why_Title.calls (wrap64 (a1)) t131 _ A5.out).mono ?_); rintro e w10 ⟨rfl, hb⟩; have n0_ := Aside0.mk (blk_below (g := gb129) (o := .cells #[.int .i16 a2_0, .int .i16 a2_1] 58 (0, 0)) (by (with_reducible repeat (first | refine blk_drewN ?_ _ | refine blk_drew ?_ | refine blk_alloc ?_ _)); exact BK129.out) hb); have n1_ := Aside0.mk (below_step (by repeat (first | (with_reducible first | exact HB.out | apply below_alloc | apply pw_below_drewN | apply below_drew1 | refine below_set ?_ GE129.out) | exact HB.out)) hb); clear BK129; clear HB; have BK129 := n0_; have HB := n1_; clear n0_ n1_; (try clear hb); (try clear hb2); (try clear hk); (try clear hi))))
  (try simp only [Act.put, List.setIfInBounds_toArray, List.set_cons_zero, List.set_cons_succ])
  go_cut [61] (fun v61 wc => ∃ (kq : Nat) (x61_5 : Bool), v61 = .bool x61_5 ∧ Aside0 (cavillaw33_WhyUnlike.j0 kq a2_0 a2_1 x61_5 = some r) ∧ Aside0 (kq ≤ k) ∧ Aside0 (wc.heap[gb129]? = some (.cells #[.int .i16 a2_0, .int .i16 a2_1] 58 (0, 0))) ∧ Aside0 (Below w.heap.size w wc))
  case first =>
    have H := HC6.out
    clear HC6
    by_cases c11 : (wrap64 (a0)) ≥ 1
    · rw [if_pos c11] at H
      have c11b0 : decide (1 ≤ (wrap64 (a0))) = true := decide_eq_true c11
      (try (have c11b1 : decide (1 ≤ (IntKind.i64.wrap (a0))) = true := by simp only [i64_w]; exact decide_eq_true c11))
      clear c11
      (first | rw [c11b0] | (simp only [i64_w, i32_w]; rw [c11b0]) | skip)
      by_cases c12 : (wrap64 (a0)) ≤ 52
      · rw [if_pos c12] at H
        have c12b0 : decide ((wrap64 (a0)) ≤ 52) = true := decide_eq_true c12
        (try (have c12b1 : decide ((IntKind.i64.wrap (a0)) ≤ 52) = true := by simp only [i64_w]; exact decide_eq_true c12))
        clear c12
        by_cases c13 : (wrap64 (a1)) ≤ 52
        · rw [if_pos c13] at H
          have c13b0 : decide ((wrap64 (a1)) ≤ 52) = true := decide_eq_true c13
          (try (have c13b1 : decide ((IntKind.i64.wrap (a1)) ≤ 52) = true := by simp only [i64_w]; exact decide_eq_true c13))
          clear c13
          by_cases c14 : a0 = a1
          · rw [if_pos c14] at H
            have c14b0 : (a0 == a1) = true := beq_iff_eq.mpr c14
            have c14b1 : (a0 != a1) = false := bne_eq_false_iff_eq.mpr c14
            clear c14
            by_cases c15 : t130.toList = ([] : List UInt8)
            · rw [if_pos c15] at H
              have c15b0 : (t130.toList == ([] : List UInt8)) = true := beq_iff_eq.mpr c15
              have c15b1 : (t130.toList != ([] : List UInt8)) = false := bne_eq_false_iff_eq.mpr c15
              clear c15
              have H' := Aside0.mk H
              clear H
              go_wp2
              repeat (go_quiet (fail); try go_wp2)
              go_meet
              case rel => exact ⟨_, (true), (by first | rfl | (simp; done) | (simp [*]; done)), H', ⟨by first | omega | exact Nat.le_refl _⟩, ⟨by (with_reducible repeat (first | refine blk_drewN ?_ _ | refine blk_drew ?_ | refine blk_alloc ?_ _)); exact BK129.out⟩, ⟨by repeat (first | (with_reducible first | exact HB.out | apply below_alloc | apply pw_below_drewN | apply below_drew1 | refine below_set ?_ GE129.out) | exact HB.out)⟩⟩
            · rw [if_neg c15] at H
              have c15b0 : (t130.toList == ([] : List UInt8)) = false := beq_eq_false_iff_ne.mpr c15
              have c15b1 : (t130.toList != ([] : List UInt8)) = true := bne_iff_ne.mpr c15
              have H' := Aside0.mk H
              clear H
              go_wp2
              repeat (go_quiet (fail); try go_wp2)
              go_meet
              case rel => exact ⟨_, ((t130.toList == ([63] : List UInt8))), (by first | rfl | (simp; done) | (simp [*]; done)), H', ⟨by first | omega | exact Nat.le_refl _⟩, ⟨by (with_reducible repeat (first | refine blk_drewN ?_ _ | refine blk_drew ?_ | refine blk_alloc ?_ _)); exact BK129.out⟩, ⟨by repeat (first | (with_reducible first | exact HB.out | apply below_alloc | apply pw_below_drewN | apply below_drew1 | refine below_set ?_ GE129.out) | exact HB.out)⟩⟩
          · rw [if_neg c14] at H
            have c14b0 : (a0 == a1) = false := beq_eq_false_iff_ne.mpr c14
            have c14b1 : (a0 != a1) = true := bne_iff_ne.mpr c14
            by_cases c16 : t130.toList = t131.toList
            · rw [if_pos c16] at H
              have c16b0 : (t130.toList == t131.toList) = true := beq_iff_eq.mpr c16
              have c16b1 : (t130.toList != t131.toList) = false := bne_eq_false_iff_eq.mpr c16
              clear c16
              have H' := Aside0.mk H
              clear H
              go_wp2
              repeat (go_quiet (fail); try go_wp2)
              go_meet
              case rel => exact ⟨_, (true), (by first | rfl | (simp; done) | (simp [*]; done)), H', ⟨by first | omega | exact Nat.le_refl _⟩, ⟨by (with_reducible repeat (first | refine blk_drewN ?_ _ | refine blk_drew ?_ | refine blk_alloc ?_ _)); exact BK129.out⟩, ⟨by repeat (first | (with_reducible first | exact HB.out | apply below_alloc | apply pw_below_drewN | apply below_drew1 | refine below_set ?_ GE129.out) | exact HB.out)⟩⟩
            · rw [if_neg c16] at H
              have c16b0 : (t130.toList == t131.toList) = false := beq_eq_false_iff_ne.mpr c16
              have c16b1 : (t130.toList != t131.toList) = true := bne_iff_ne.mpr c16
              by_cases c17 : t130.toList = ([] : List UInt8)
              · rw [if_pos c17] at H
                have c17b0 : (t130.toList == ([] : List UInt8)) = true := beq_iff_eq.mpr c17
                have c17b1 : (t130.toList != ([] : List UInt8)) = false := bne_eq_false_iff_eq.mpr c17
                clear c17
                have H' := Aside0.mk H
                clear H
                go_wp2
                repeat (go_quiet (fail); try go_wp2)
                go_meet
                case rel => exact ⟨_, (true), (by first | rfl | (simp; done) | (simp [*]; done)), H', ⟨by first | omega | exact Nat.le_refl _⟩, ⟨by (with_reducible repeat (first | refine blk_drewN ?_ _ | refine blk_drew ?_ | refine blk_alloc ?_ _)); exact BK129.out⟩, ⟨by repeat (first | (with_reducible first | exact HB.out | apply below_alloc | apply pw_below_drewN | apply below_drew1 | refine below_set ?_ GE129.out) | exact HB.out)⟩⟩
              · rw [if_neg c17] at H
                have c17b0 : (t130.toList == ([] : List UInt8)) = false := beq_eq_false_iff_ne.mpr c17
                have c17b1 : (t130.toList != ([] : List UInt8)) = true := bne_iff_ne.mpr c17
                have H' := Aside0.mk H
                clear H
                go_wp2
                repeat (go_quiet (fail); try go_wp2)
                go_meet
                case rel => exact ⟨_, ((t130.toList == ([63] : List UInt8))), (by first | rfl | (simp; done) | (simp [*]; done)), H', ⟨by first | omega | exact Nat.le_refl _⟩, ⟨by (with_reducible repeat (first | refine blk_drewN ?_ _ | refine blk_drew ?_ | refine blk_alloc ?_ _)); exact BK129.out⟩, ⟨by repeat (first | (with_reducible first | exact HB.out | apply below_alloc | apply pw_below_drewN | apply below_drew1 | refine below_set ?_ GE129.out) | exact HB.out)⟩⟩
        · rw [if_neg c13] at H
          have c13b0 : decide ((wrap64 (a1)) ≤ 52) = false := decide_eq_false c13
          (try (have c13b1 : decide ((IntKind.i64.wrap (a1)) ≤ 52) = false := by simp only [i64_w]; exact decide_eq_false c13))
          clear c13
          by_cases c18 : t130.toList = ([] : List UInt8)
          · rw [if_pos c18] at H
            have c18b0 : (t130.toList == ([] : List UInt8)) = true := beq_iff_eq.mpr c18
            have c18b1 : (t130.toList != ([] : List UInt8)) = false := bne_eq_false_iff_eq.mpr c18
            clear c18
            have H' := Aside0.mk H
            clear H
            go_wp2
            repeat (go_quiet (fail); try go_wp2)
            go_meet
            case rel => exact ⟨_, (true), (by first | rfl | (simp; done) | (simp [*]; done)), H', ⟨by first | omega | exact Nat.le_refl _⟩, ⟨by (with_reducible repeat (first | refine blk_drewN ?_ _ | refine blk_drew ?_ | refine blk_alloc ?_ _)); exact BK129.out⟩, ⟨by repeat (first | (with_reducible first | exact HB.out | apply below_alloc | apply pw_below_drewN | apply below_drew1 | refine below_set ?_ GE129.out) | exact HB.out)⟩⟩
          · rw [if_neg c18] at H
            have c18b0 : (t130.toList == ([] : List UInt8)) = false := beq_eq_false_iff_ne.mpr c18
            have c18b1 : (t130.toList != ([] : List UInt8)) = true := bne_iff_ne.mpr c18
            have H' := Aside0.mk H
            clear H
            go_wp2
            repeat (go_quiet (fail); try go_wp2)
            go_meet
            case rel => exact ⟨_, ((t130.toList == ([63] : List UInt8))), (by first | rfl | (simp; done) | (simp [*]; done)), H', ⟨by first | omega | exact Nat.le_refl _⟩, ⟨by (with_reducible repeat (first | refine blk_drewN ?_ _ | refine blk_drew ?_ | refine blk_alloc ?_ _)); exact BK129.out⟩, ⟨by repeat (first | (with_reducible first | exact HB.out | apply below_alloc | apply pw_below_drewN | apply below_drew1 | refine below_set ?_ GE129.out) | exact HB.out)⟩⟩
      · rw [if_neg c12] at H
        have c12b0 : decide ((wrap64 (a0)) ≤ 52) = false := decide_eq_false c12
        (try (have c12b1 : decide ((IntKind.i64.wrap (a0)) ≤ 52) = false := by simp only [i64_w]; exact decide_eq_false c12))
        clear c12
        have H' := Aside0.mk H
        clear H
        go_wp2
        repeat (go_quiet (fail); try go_wp2)
        go_meet
        case rel => exact ⟨_, (false), (by first | rfl | (simp; done) | (simp [*]; done)), H', ⟨by first | omega | exact Nat.le_refl _⟩, ⟨by (with_reducible repeat (first | refine blk_drewN ?_ _ | refine blk_drew ?_ | refine blk_alloc ?_ _)); exact BK129.out⟩, ⟨by repeat (first | (with_reducible first | exact HB.out | apply below_alloc | apply pw_below_drewN | apply below_drew1 | refine below_set ?_ GE129.out) | exact HB.out)⟩⟩
    · rw [if_neg c11] at H
      have c11b0 : decide (1 ≤ (wrap64 (a0))) = false := decide_eq_false c11
      (try (have c11b1 : decide (1 ≤ (IntKind.i64.wrap (a0))) = false := by simp only [i64_w]; exact decide_eq_false c11))
      clear c11
      (first | rw [c11b0] | (simp only [i64_w, i32_w]; rw [c11b0]) | skip)
      have H' := Aside0.mk H
      clear H
      go_wp2
      repeat (go_quiet (fail); try go_wp2)
      go_meet
      case rel => exact ⟨_, (false), (by first | rfl | (simp; done) | (simp [*]; done)), H', ⟨by first | omega | exact Nat.le_refl _⟩, ⟨by (with_reducible repeat (first | refine blk_drewN ?_ _ | refine blk_drew ?_ | refine blk_alloc ?_ _)); exact BK129.out⟩, ⟨by repeat (first | (with_reducible first | exact HB.out | apply below_alloc | apply pw_below_drewN | apply below_drew1 | refine below_set ?_ GE129.out) | exact HB.out)⟩⟩
  case rest =>
    clear HC6
    try clear c1
    try clear p2
    try clear c6
    try clear p6
    try clear c11
    try clear c11b0
    try clear c11b1
    try clear c12
    try clear c12b0
    try clear c12b1
    try clear c13
    try clear c13b0
    try clear c13b1
    try clear c14
    try clear c14b0
    try clear c14b1
    try clear c15
    try clear c15b0
    try clear c15b1
    try clear c16
    try clear c16b0
    try clear c16b1
    try clear c17
    try clear c17b0
    try clear c17b1
    try clear c18
    try clear c18b0
    try clear c18b1
    try clear hcz8_0
    try clear hcz8_1
    try clear hfz8_0
    try clear hfz8_1
    obtain ⟨kq, x61_5, rfl, HA, HJ5, BK129, HB⟩ := hcut
    cases kq with
    | zero => exact absurd HA.out (by simp [cavillaw33_WhyUnlike.j0])
    | succ kj5 =>
      have H := HA.out
      clear HA
      simp only [cavillaw33_WhyUnlike.j0] at H
      by_cases c19 : x61_5 = true
      · subst c19
        have H1 : (some false) = some r := by rw [if_pos rfl] at H; exact H
        clear H
        have H := H1
        clear H1
        exact absurd ((Option.some.inj H).trans HRT.out) (by decide)
      · replace c19 := Bool.eq_false_iff.mpr c19
        subst c19
        have H1 : ((why_Step.f (wrap64 (a2_0))).bind fun t132 => ((why_Step.f (wrap64 (a2_1))).bind fun t133 => (if ((a2_0 == a2_1) == (t132.toList == t133.toList)) = true then ((cavillaw33_works.f).bind fun t134 => (some t134)) else (some false)))) = some r := by rw [if_neg (show ¬ (false = true) by decide)] at H; exact H
        clear H
        have H := H1
        clear H1
        replace H := Option.bind_eq_some_iff.mp H
        obtain ⟨t132, A200, H⟩ := H
        replace H : ((why_Step.f (wrap64 (a2_1))).bind fun t133 => (if ((a2_0 == a2_1) == (t132.toList == t133.toList)) = true then ((cavillaw33_works.f).bind fun t134 => (some t134)) else (some false))) = some r := H
        have A20 := Aside0.mk A200
        clear A200
        replace H := Option.bind_eq_some_iff.mp H
        obtain ⟨t133, A210, H⟩ := H
        replace H : (if ((a2_0 == a2_1) == (t132.toList == t133.toList)) = true then ((cavillaw33_works.f).bind fun t134 => (some t134)) else (some false)) = some r := H
        have A21 := Aside0.mk A210
        clear A210
        by_cases c22 : ((a2_0 == a2_1) == (t132.toList == t133.toList)) = true
        · rw [if_pos c22] at H
          have c22b0 : ((a2_0 == a2_1) == (t132.toList == t133.toList)) = true := c22
          (try (have c22b1 : decide ((a2_0 == a2_1) = (t132.toList == t133.toList)) = true := by simpa using c22))
          (try (have c22b2 : ((a2_0 == a2_1) == (t132.toList == t133.toList)) = true := by simpa using c22))
          clear c22
          replace H := Option.bind_eq_some_iff.mp H
          obtain ⟨t134, A230, H⟩ := H
          replace H : (some t134) = some r := H
          have A23 := Aside0.mk A230
          clear A230
          obtain rfl := Option.some.inj H
          go_wp2_with (first | (go_at_call 29; (with_reducible refine (why_Step.calls (wrap64 (a2_0)) t132 _ ?side1 A20.out).mono ?_); (case side1 => repeat (first | exact (GL_below HG.out HB.out) | exact HG.out | (with_reducible refine GL_alloc ?_ _) | (with_reducible refine GL_drewN ?_ _) | (with_reducible refine GL_drew ?_))); rintro e w24 ⟨rfl, hb⟩; have n0_ := Aside0.mk (blk_below (g := gb129) (o := .cells #[.int .i16 a2_0, .int .i16 a2_1] 58 (0, 0)) (by (with_reducible repeat (first | refine blk_drewN ?_ _ | refine blk_drew ?_ | refine blk_alloc ?_ _)); exact BK129.out) hb); have n1_ := Aside0.mk (below_step (by repeat (first | (with_reducible first | exact HB.out | apply below_alloc | apply pw_below_drewN | apply below_drew1 | refine below_set ?_ GE129.out) | exact HB.out)) hb); clear BK129; clear HB; have BK129 := n0_; have HB := n1_; clear n0_ n1_; (try clear hb); (try clear hb2); (try clear hk); (try clear hi)) | (go_at_call 29; (with_reducible refine (why_Step.calls (wrap64 (a2_1)) t133 _ ?side1 A21.out).mono ?_); (case side1 => repeat (first | exact (GL_below HG.out HB.out) | exact HG.out | (with_reducible refine GL_alloc ?_ _) | (with_reducible refine GL_drewN ?_ _) | (with_reducible refine GL_drew ?_))); rintro e w25 ⟨rfl, hb⟩; have n0_ := Aside0.mk (blk_below (g := gb129) (o := .cells #[.int .i16 a2_0, .int .i16 a2_1] 58 (0, 0)) (by (with_reducible repeat (first | refine blk_drewN ?_ _ | refine blk_drew ?_ | refine blk_alloc ?_ _)); exact BK129.out) hb); have n1_ := Aside0.mk (below_step (by repeat (first | (with_reducible first | exact HB.out | apply below_alloc | apply pw_below_drewN | apply below_drew1 | refine below_set ?_ GE129.out) | exact HB.out)) hb); clear BK129; clear HB; have BK129 := n0_; have HB := n1_; clear n0_ n1_; (try clear hb); (try clear hb2); (try clear hk); (try clear hi)) | (go_at_call 31; (with_reducible refine (cavillaw33_works.calls  t134 _ ?side1 A23.out).mono ?_); (case side1 => repeat (first | exact (GL_below HG.out HB.out) | exact HG.out | (with_reducible refine GL_alloc ?_ _) | (with_reducible refine GL_drewN ?_ _) | (with_reducible refine GL_drew ?_))); rintro e w26 ⟨rfl, hb⟩; have n0_ := Aside0.mk (blk_below (g := gb129) (o := .cells #[.int .i16 a2_0, .int .i16 a2_1] 58 (0, 0)) (by (with_reducible repeat (first | refine blk_drewN ?_ _ | refine blk_drew ?_ | refine blk_alloc ?_ _)); exact BK129.out) hb); have n1_ := Aside0.mk (below_step (by repeat (first | (with_reducible first | exact HB.out | apply below_alloc | apply pw_below_drewN | apply below_drew1 | refine below_set ?_ GE129.out) | exact HB.out)) hb); clear BK129; clear HB; have BK129 := n0_; have HB := n1_; clear n0_ n1_; (try clear hb); (try clear hb2); (try clear hk); (try clear hi)))
          repeat (go_quiet (first | (go_at_call 29; (with_reducible refine (why_Step.calls (wrap64 (a2_0)) t132 _ ?side1 A20.out).mono ?_); (case side1 => repeat (first | exact (GL_below HG.out HB.out) | exact HG.out | (with_reducible refine GL_alloc ?_ _) | (with_reducible refine GL_drewN ?_ _) | (with_reducible refine GL_drew ?_))); rintro e w24 ⟨rfl, hb⟩; have n0_ := Aside0.mk (blk_below (g := gb129) (o := .cells #[.int .i16 a2_0, .int .i16 a2_1] 58 (0, 0)) (by (with_reducible repeat (first | refine blk_drewN ?_ _ | refine blk_drew ?_ | refine blk_alloc ?_ _)); exact BK129.out) hb); have n1_ := Aside0.mk (below_step (by repeat (first | (with_reducible first | exact HB.out | apply below_alloc | apply pw_below_drewN | apply below_drew1 | refine below_set ?_ GE129.out) | exact HB.out)) hb); clear BK129; clear HB; have BK129 := n0_; have HB := n1_; clear n0_ n1_; (try clear hb); (try clear hb2); (try clear hk); (try clear hi)) | (go_at_call 29; (with_reducible refine (why_Step.calls (wrap64 (a2_1)) t133 _ ?side1 A21.out).mono ?_); (case side1 => repeat (first | exact (GL_below HG.out HB.out) | exact HG.out | (with_reducible refine GL_alloc ?_ _) | (with_reducible refine GL_drewN ?_ _) | (with_reducible refine GL_drew ?_))); rintro e w25 ⟨rfl, hb⟩; have n0_ := Aside0.mk (blk_below (g := gb129) (o := .cells #[.int .i16 a2_0, .int .i16 a2_1] 58 (0, 0)) (by (with_reducible repeat (first | refine blk_drewN ?_ _ | refine blk_drew ?_ | refine blk_alloc ?_ _)); exact BK129.out) hb); have n1_ := Aside0.mk (below_step (by repeat (first | (with_reducible first | exact HB.out | apply below_alloc | apply pw_below_drewN | apply below_drew1 | refine below_set ?_ GE129.out) | exact HB.out)) hb); clear BK129; clear HB; have BK129 := n0_; have HB := n1_; clear n0_ n1_; (try clear hb); (try clear hb2); (try clear hk); (try clear hi)) | (go_at_call 31; (with_reducible refine (cavillaw33_works.calls  t134 _ ?side1 A23.out).mono ?_); (case side1 => repeat (first | exact (GL_below HG.out HB.out) | exact HG.out | (with_reducible refine GL_alloc ?_ _) | (with_reducible refine GL_drewN ?_ _) | (with_reducible refine GL_drew ?_))); rintro e w26 ⟨rfl, hb⟩; have n0_ := Aside0.mk (blk_below (g := gb129) (o := .cells #[.int .i16 a2_0, .int .i16 a2_1] 58 (0, 0)) (by (with_reducible repeat (first | refine blk_drewN ?_ _ | refine blk_drew ?_ | refine blk_alloc ?_ _)); exact BK129.out) hb); have n1_ := Aside0.mk (below_step (by repeat (first | (with_reducible first | exact HB.out | apply below_alloc | apply pw_below_drewN | apply below_drew1 | refine below_set ?_ GE129.out) | exact HB.out)) hb); clear BK129; clear HB; have BK129 := n0_; have HB := n1_; clear n0_ n1_; (try clear hb); (try clear hb2); (try clear hk); (try clear hi))); try go_wp2_with (first | (go_at_call 29; (with_reducible refine (why_Step.calls (wrap64 (a2_0)) t132 _ ?side1 A20.out).mono ?_); (case side1 => repeat (first | exact (GL_below HG.out HB.out) | exact HG.out | (with_reducible refine GL_alloc ?_ _) | (with_reducible refine GL_drewN ?_ _) | (with_reducible refine GL_drew ?_))); rintro e w24 ⟨rfl, hb⟩; have n0_ := Aside0.mk (blk_below (g := gb129) (o := .cells #[.int .i16 a2_0, .int .i16 a2_1] 58 (0, 0)) (by (with_reducible repeat (first | refine blk_drewN ?_ _ | refine blk_drew ?_ | refine blk_alloc ?_ _)); exact BK129.out) hb); have n1_ := Aside0.mk (below_step (by repeat (first | (with_reducible first | exact HB.out | apply below_alloc | apply pw_below_drewN | apply below_drew1 | refine below_set ?_ GE129.out) | exact HB.out)) hb); clear BK129; clear HB; have BK129 := n0_; have HB := n1_; clear n0_ n1_; (try clear hb); (try clear hb2); (try clear hk); (try clear hi)) | (go_at_call 29; (with_reducible refine (why_Step.calls (wrap64 (a2_1)) t133 _ ?side1 A21.out).mono ?_); (case side1 => repeat (first | exact (GL_below HG.out HB.out) | exact HG.out | (with_reducible refine GL_alloc ?_ _) | (with_reducible refine GL_drewN ?_ _) | (with_reducible refine GL_drew ?_))); rintro e w25 ⟨rfl, hb⟩; have n0_ := Aside0.mk (blk_below (g := gb129) (o := .cells #[.int .i16 a2_0, .int .i16 a2_1] 58 (0, 0)) (by (with_reducible repeat (first | refine blk_drewN ?_ _ | refine blk_drew ?_ | refine blk_alloc ?_ _)); exact BK129.out) hb); have n1_ := Aside0.mk (below_step (by repeat (first | (with_reducible first | exact HB.out | apply below_alloc | apply pw_below_drewN | apply below_drew1 | refine below_set ?_ GE129.out) | exact HB.out)) hb); clear BK129; clear HB; have BK129 := n0_; have HB := n1_; clear n0_ n1_; (try clear hb); (try clear hb2); (try clear hk); (try clear hi)) | (go_at_call 31; (with_reducible refine (cavillaw33_works.calls  t134 _ ?side1 A23.out).mono ?_); (case side1 => repeat (first | exact (GL_below HG.out HB.out) | exact HG.out | (with_reducible refine GL_alloc ?_ _) | (with_reducible refine GL_drewN ?_ _) | (with_reducible refine GL_drew ?_))); rintro e w26 ⟨rfl, hb⟩; have n0_ := Aside0.mk (blk_below (g := gb129) (o := .cells #[.int .i16 a2_0, .int .i16 a2_1] 58 (0, 0)) (by (with_reducible repeat (first | refine blk_drewN ?_ _ | refine blk_drew ?_ | refine blk_alloc ?_ _)); exact BK129.out) hb); have n1_ := Aside0.mk (below_step (by repeat (first | (with_reducible first | exact HB.out | apply below_alloc | apply pw_below_drewN | apply below_drew1 | refine below_set ?_ GE129.out) | exact HB.out)) hb); clear BK129; clear HB; have BK129 := n0_; have HB := n1_; clear n0_ n1_; (try clear hb); (try clear hb2); (try clear hk); (try clear hi))))
          go_ret
          exact ⟨by first | rfl | (simp [errW_none, errW_some, erT_no, erV_no, erT_at, erV_at] <;> rfl) | (simp [*, errW_none, errW_some, erT_no, erV_no, erT_at, erV_at] <;> rfl), by repeat (first | (with_reducible first | exact HB.out | apply below_alloc | apply pw_below_drewN | apply below_drew1 | refine below_set ?_ GE129.out) | exact HB.out)⟩
        · rw [if_neg c22] at H
          have c22b0 : ((a2_0 == a2_1) == (t132.toList == t133.toList)) = false := by simpa using c22
          (try (have c22b1 : decide ((a2_0 == a2_1) = (t132.toList == t133.toList)) = false := by simpa using c22))
          (try (have c22b2 : ((a2_0 == a2_1) == (t132.toList == t133.toList)) = false := by simpa using c22))
          (try (have c22b3 : (((a2_0 == a2_1) = (t132.toList == t133.toList)) = False) := by simpa using c22))
          clear c22
          exact absurd ((Option.some.inj H).trans HRT.out) (by decide)

end Go.Proofs.YtnpgadfoohjlnabDoor.QZ
