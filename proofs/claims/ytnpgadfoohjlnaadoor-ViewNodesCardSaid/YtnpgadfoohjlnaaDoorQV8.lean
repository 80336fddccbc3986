/- Where a Lean function of this text answers, the Go function of its name comes to that answer: no other condition. Written by a program of this session out of the translation; Lean checks it. -/
import Derived.Test.YtnpgadfoohjlnaaDoorQV0
import Derived.Test.YtnpgadfoohjlnaaDoorQV7
namespace Go.Proofs.YtnpgadfoohjlnaaDoor.QV
open Go.RowKit Go.Proofs.YtnpgadfoohjlnaaDoorW.PrintWords Go.Proofs.YtnpgadfoohjlnaaDoorW.PrintLast Go.Proofs.YtnpgadfoohjlnaaDoorW.PrintMore Go.Proofs.YtnpgadfoohjlnaaDoorW.PrintX
attribute [local go_sem] max2_int min2_int max_two min_two max_three min_three max_four min_four   -- for this text's walks alone
set_option linter.unusedVariables false
set_option linter.unusedSimpArgs false

/-! ### view_File_Word: function 42 -/
def view_File_Word.f (l0 : List (S100)) (a1 : Int) : Option (ByteArray) := if 0 < (l0.length : Int) then ((view_File_Node.f l0 a1).bind fun bt179 => (if bt179.1 = 2 then (if bt179.2.1 ≥ bt179.2.2.1 then (some (⟨#[]⟩ : ByteArray)) else (if 0 ≤ bt179.2.1 then (if bt179.2.1 < (((rd_T100 l0 0).f1).length : Int) then ((scan_Text.f ((rd_T100 l0 0).f0) ((rd_T103 ((rd_T100 l0 0).f1) bt179.2.1).f0) ((rd_T103 ((rd_T100 l0 0).f1) bt179.2.1).f1) ((rd_T103 ((rd_T100 l0 0).f1) bt179.2.1).f2) ((rd_T103 ((rd_T100 l0 0).f1) bt179.2.1).f3) ((rd_T103 ((rd_T100 l0 0).f1) bt179.2.1).f4)).bind fun t189 => (some t189)) else (none)) else (none))) else (if bt179.1 = 3 then (if bt179.2.1 ≥ bt179.2.2.1 then (some (⟨#[]⟩ : ByteArray)) else (if 0 ≤ bt179.2.1 then (if bt179.2.1 < (((rd_T100 l0 0).f1).length : Int) then ((scan_Text.f ((rd_T100 l0 0).f0) ((rd_T103 ((rd_T100 l0 0).f1) bt179.2.1).f0) ((rd_T103 ((rd_T100 l0 0).f1) bt179.2.1).f1) ((rd_T103 ((rd_T100 l0 0).f1) bt179.2.1).f2) ((rd_T103 ((rd_T100 l0 0).f1) bt179.2.1).f3) ((rd_T103 ((rd_T100 l0 0).f1) bt179.2.1).f4)).bind fun t193 => (some t193)) else (none)) else (none))) else (some (⟨#[]⟩ : ByteArray))))) else (none)
def view_File_Word.T4 : Bool × List (List Nat × List Nat) := (true, [([], []), ([0], [0]), ([1], [1]), ([2], [2]), ([], []), ([4], [4]), ([5], [5]), ([6], [6]), ([], []), ([8], [8]), ([7, 9], [7, 9]), ([10], [10]), ([3, 11], [3, 11]), ([12, 12, 0, 1, 2, 3, 4, 5, 6, 7, 8, 9, 10, 11, 12], [12])])
def view_File_Word.B4 : List Nat := [0, 1, 3, 7, 0, 16, 48, 112, 0, 256, 1008, 2032, 4095, 8191]
theorem view_File_Word.tab4 : rtab .any (opsOf Tryd.f42 4) = view_File_Word.T4 := by kernel_rfl
theorem view_File_Word.bits4 : waitsOk view_File_Word.T4.2 view_File_Word.B4 = true := by kernel_rfl
set_option maxHeartbeats 8000000 in
set_option maxRecDepth 100000 in
theorem view_File_Word.calls (A0 : Option Addr) (c0 : Nat) (l0 : List (S100)) (a1 : Int) (r : ByteArray) (w : World) (hr0 : Kd.C k100 w A0 l0.length l0) (hc0 : l0.length ≤ c0) (h : view_File_Word.f l0 a1 = some r) :
  Calls Tryd.prog 42 #[.pointer A0, .int .i64 a1] w fun e w' => e = .returned (.string r) ∧ Below w.heap.size w w' := by
 have hu33 := Tryd.underlying33
 have hu103 := Tryd.underlying103
 have HR0 := Aside0.mk hr0
 have HC0 := Aside0.mk hc0
 clear hr0 hc0
 have HB := Aside0.mk (Below.refl w.heap.size w)
 have H : (if 0 < (l0.length : Int) then ((view_File_Node.f l0 a1).bind fun bt179 => (if bt179.1 = 2 then (if bt179.2.1 ≥ bt179.2.2.1 then (some (⟨#[]⟩ : ByteArray)) else (if 0 ≤ bt179.2.1 then (if bt179.2.1 < (((rd_T100 l0 0).f1).length : Int) then ((scan_Text.f ((rd_T100 l0 0).f0) ((rd_T103 ((rd_T100 l0 0).f1) bt179.2.1).f0) ((rd_T103 ((rd_T100 l0 0).f1) bt179.2.1).f1) ((rd_T103 ((rd_T100 l0 0).f1) bt179.2.1).f2) ((rd_T103 ((rd_T100 l0 0).f1) bt179.2.1).f3) ((rd_T103 ((rd_T100 l0 0).f1) bt179.2.1).f4)).bind fun t189 => (some t189)) else (none)) else (none))) else (if bt179.1 = 3 then (if bt179.2.1 ≥ bt179.2.2.1 then (some (⟨#[]⟩ : ByteArray)) else (if 0 ≤ bt179.2.1 then (if bt179.2.1 < (((rd_T100 l0 0).f1).length : Int) then ((scan_Text.f ((rd_T100 l0 0).f0) ((rd_T103 ((rd_T100 l0 0).f1) bt179.2.1).f0) ((rd_T103 ((rd_T100 l0 0).f1) bt179.2.1).f1) ((rd_T103 ((rd_T100 l0 0).f1) bt179.2.1).f2) ((rd_T103 ((rd_T100 l0 0).f1) bt179.2.1).f3) ((rd_T103 ((rd_T100 l0 0).f1) bt179.2.1).f4)).bind fun t193 => (some t193)) else (none)) else (none))) else (some (⟨#[]⟩ : ByteArray))))) else (none)) = some r := h
 clear h
 by_cases c3 : 0 < (l0.length : Int)
 ·rw [if_pos c3] at H
  have c3b0 : decide (0 < (l0.length : Int)) = true := decide_eq_true c3
  have c3b1 : decide (0 < l0.length) = true := decide_eq_true (by omega)
  clear c3
  replace H := Option.bind_eq_some_iff.mp H
  obtain ⟨⟨t179, t180, t181, t182⟩, A40, H⟩ := H
  replace H : (if t179 = 2 then (if t180 ≥ t181 then (some (⟨#[]⟩ : ByteArray)) else (if 0 ≤ t180 then (if t180 < (((rd_T100 l0 0).f1).length : Int) then ((scan_Text.f ((rd_T100 l0 0).f0) ((rd_T103 ((rd_T100 l0 0).f1) t180).f0) ((rd_T103 ((rd_T100 l0 0).f1) t180).f1) ((rd_T103 ((rd_T100 l0 0).f1) t180).f2) ((rd_T103 ((rd_T100 l0 0).f1) t180).f3) ((rd_T103 ((rd_T100 l0 0).f1) t180).f4)).bind fun t189 => (some t189)) else (none)) else (none))) else (if t179 = 3 then (if t180 ≥ t181 then (some (⟨#[]⟩ : ByteArray)) else (if 0 ≤ t180 then (if t180 < (((rd_T100 l0 0).f1).length : Int) then ((scan_Text.f ((rd_T100 l0 0).f0) ((rd_T103 ((rd_T100 l0 0).f1) t180).f0) ((rd_T103 ((rd_T100 l0 0).f1) t180).f1) ((rd_T103 ((rd_T100 l0 0).f1) t180).f2) ((rd_T103 ((rd_T100 l0 0).f1) t180).f3) ((rd_T103 ((rd_T100 l0 0).f1) t180).f4)).bind fun t193 => (some t193)) else (none)) else (none))) else (some (⟨#[]⟩ : ByteArray)))) = some r := H
  have A4 := Aside0.mk A40
  clear A40
  by_cases c5 : t179 = 2
  ·rw [if_pos c5] at H
   have c5b0 : (t179 == 2) = true := beq_iff_eq.mpr c5
   have c5b1 : (t179 != 2) = false := bne_eq_false_iff_eq.mpr c5
   clear c5
   by_cases c6 : t180 ≥ t181
   ·rw [if_pos c6] at H
    have c6b0 : decide (t181 ≤ t180) = true := decide_eq_true c6
    clear c6
    obtain rfl := Option.some.inj H
    have p178 : 0 ≤ (0 : Int) := (by omega)
    have q178 : 0 < (l0.length : Int) := of_dec
    obtain ⟨ad178, A178_0, c178_0, A178_1, c178_1, A178_2, c178_2, e178, hx178_0, hx178_1, hx178_2, hl178_0, hi178_0, hl178_1, hi178_1, hl178_2, hi178_2⟩ := at_T100 HR0.out 0 p178 q178
    cases e178
    have qi178 : (0 < l0.length) = True := eq_true (by omega)
    (try rw [show ((0 : Int)).toNat = 0 from rfl] at hx178_0)
    (try rw [show 0 * 3 = 0 from rfl] at hx178_0)
    (try rw [Addr.add_zero'] at hx178_0)
    (try rw [show ((0 : Int)).toNat = 0 from rfl] at hx178_1)
    (try rw [show 0 * 3 = 0 from rfl] at hx178_1)
    (try rw [Addr.add_zero'] at hx178_1)
    (try rw [show ((0 : Int)).toNat = 0 from rfl] at hx178_2)
    (try rw [show 0 * 3 = 0 from rfl] at hx178_2)
    (try rw [Addr.add_zero'] at hx178_2)
    have HR178_0 := Aside0.mk hi178_0
    have HC178_0 := Aside0.mk hl178_0
    clear hi178_0 hl178_0
    have HR178_1 := Aside0.mk hi178_1
    have HC178_1 := Aside0.mk hl178_1
    clear hi178_1 hl178_1
    have HR178_2 := Aside0.mk hi178_2
    have HC178_2 := Aside0.mk hl178_2
    clear hi178_2 hl178_2
    replace p178 := eq_true p178
    replace q178 := eq_true q178
    go_enter Tryd.func42, Tryd.ntmps42
    go_wp2_with (first | ((with_reducible refine gate_callee (f := 40) rfl ?_); refine goesL_ (some 8) rfl rfl Tryd.func40 (by kernel_rfl) rfl #[.pointer (some ad178), .int .i64 a1] rfl (by (try simp only [List.map_toArray, List.map_cons, List.map_nil]); first | done | rfl | (simp only [List.length_drop, List.length_take]; rfl)) ?_; (with_reducible refine (view_File_Node.calls (fun k_ => k_ < w.heap.size) _ c0 l0 a1 t179 t180 t181 t182 _ ?side1 A4.out).mono ?_); (case side1 => exact Kd.V_mk HC0.out (Kd.F_below (Kd.C_F k100_heap HR0.out) (go_b HB.out))); rintro e w7 ⟨v183, rfl, ho0, hb⟩; refine ⟨_, rfl, ?_⟩; have n0_ := Aside0.mk (Kd.V_lower (Kd.V_mono (ok' := fun k_ => True) ho0 (fun k_ hk_ => trivial)) (below_size (go_b HB.out))); have n1_ := Aside0.mk (below_step (go_b HB.out) hb); clear HB; have HO184 := n0_; have HB := n1_; clear n0_ n1_; (try clear hb); (try clear hb2); (try clear hk); (try clear hi); (try clear ho0)) | ((with_reducible refine gate_dst (N := 5) rfl ?_); refine box_event ?hg (N := 5) ?hd (cs := #[.int .i64 0, .int .i64 0, .int .i64 0, .slice none 0 0]) (t := 33) ?hr ?_; (case hd => rfl); (case hg => rfl); (case hr => first | (go_simp; done) | (go_simp; rfl)); intro gb185 hg w8 hbox hb; have n0_ := Aside0.mk (Kd.V_below (Kd.V_elderB (go_V HO184.out) gb185 (Nat.le_of_eq hg.symm)) hb); have n1_ := Aside0.mk (below_step (go_b HB.out) hb); have n2_ := Aside0.mk (hbox); have n3_ := Aside0.mk ((by rw [hg]; exact (below_size (go_b HB.out)) : w.heap.size ≤ gb185)); have n4_ := n3_; clear HO184; clear HB; have HO184 := n0_; have HB := n1_; have BK185 := n2_; have GW185 := n3_; have GE185 := n4_; clear n0_ n1_ n2_ n3_ n4_; clear hb hbox hg; have hcz9_0 : w8.cell? ⟨gb185, 0, none⟩ = some (.int .i64 0) := (blk_cell BK185.out 0).trans rfl; have hcz9_1 : w8.cell? ⟨gb185, 1, none⟩ = some (.int .i64 0) := (blk_cell BK185.out 1).trans rfl; have hcz9_2 : w8.cell? ⟨gb185, 2, none⟩ = some (.int .i64 0) := (blk_cell BK185.out 2).trans rfl; have hcz9_3 : w8.cell? ⟨gb185, 3, none⟩ = some (.slice none 0 0) := (blk_cell BK185.out 3).trans rfl; have hfz9_0 := blk_frozen BK185.out 0; have hfz9_1 := blk_frozen BK185.out 1; have hfz9_2 := blk_frozen BK185.out 2; have hfz9_3 := blk_frozen BK185.out 3; obtain ⟨Ao10, co10, eo10⟩ := Kd.V_slice HO184.out; subst eo10))
    go_ret
    exact ⟨by first | rfl | (simp [*, errW_none, errW_some, erT_no, erV_no, erT_at, erV_at] <;> rfl), by repeat (first | (with_reducible first | exact HB.out | apply below_alloc | apply pw_below_drewN | apply below_drew1 | refine below_set ?_ GE185.out) | exact HB.out)⟩
   ·rw [if_neg c6] at H
    have c6b0 : decide (t181 ≤ t180) = false := decide_eq_false c6
    clear c6
    by_cases c11 : 0 ≤ t180
    ·rw [if_pos c11] at H
     have c11b0 : decide (0 ≤ t180) = true := decide_eq_true c11
     clear c11
     by_cases c12 : t180 < (((rd_T100 l0 0).f1).length : Int)
     ·rw [if_pos c12] at H
      have c12b0 : decide (t180 < (((rd_T100 l0 0).f1).length : Int)) = true := decide_eq_true c12
      clear c12
      replace H := Option.bind_eq_some_iff.mp H
      obtain ⟨t189, A130, H⟩ := H
      replace H : (some t189) = some r := H
      have A13 := Aside0.mk A130
      clear A130
      obtain rfl := Option.some.inj H
      have p178 : 0 ≤ (0 : Int) := (by omega)
      have q178 : 0 < (l0.length : Int) := of_dec
      obtain ⟨ad178, A178_0, c178_0, A178_1, c178_1, A178_2, c178_2, e178, hx178_0, hx178_1, hx178_2, hl178_0, hi178_0, hl178_1, hi178_1, hl178_2, hi178_2⟩ := at_T100 HR0.out 0 p178 q178
      cases e178
      have qi178 : (0 < l0.length) = True := eq_true (by omega)
      (try rw [show ((0 : Int)).toNat = 0 from rfl] at hx178_0)
      (try rw [show 0 * 3 = 0 from rfl] at hx178_0)
      (try rw [Addr.add_zero'] at hx178_0)
      (try rw [show ((0 : Int)).toNat = 0 from rfl] at hx178_1)
      (try rw [show 0 * 3 = 0 from rfl] at hx178_1)
      (try rw [Addr.add_zero'] at hx178_1)
      (try rw [show ((0 : Int)).toNat = 0 from rfl] at hx178_2)
      (try rw [show 0 * 3 = 0 from rfl] at hx178_2)
      (try rw [Addr.add_zero'] at hx178_2)
      have HR178_0 := Aside0.mk hi178_0
      have HC178_0 := Aside0.mk hl178_0
      clear hi178_0 hl178_0
      have HR178_1 := Aside0.mk hi178_1
      have HC178_1 := Aside0.mk hl178_1
      clear hi178_1 hl178_1
      have HR178_2 := Aside0.mk hi178_2
      have HC178_2 := Aside0.mk hl178_2
      clear hi178_2 hl178_2
      replace p178 := eq_true p178
      replace q178 := eq_true q178
      go_enter Tryd.func42, Tryd.ntmps42
      try go_wp2_with (first | ((with_reducible refine gate_callee (f := 40) rfl ?_); refine goesL_ (some 8) rfl rfl Tryd.func40 (by kernel_rfl) rfl #[.pointer (some ad178), .int .i64 a1] rfl (by (try simp only [List.map_toArray, List.map_cons, List.map_nil]); first | done | rfl | (simp only [List.length_drop, List.length_take]; rfl)) ?_; (with_reducible refine (view_File_Node.calls (fun k_ => k_ < w.heap.size) _ c0 l0 a1 t179 t180 t181 t182 _ ?side1 A4.out).mono ?_); (case side1 => exact Kd.V_mk HC0.out (Kd.F_below (Kd.C_F k100_heap HR0.out) (go_b HB.out))); rintro e w14 ⟨v183, rfl, ho0, hb⟩; refine ⟨_, rfl, ?_⟩; have n0_ := Aside0.mk (Kd.V_lower (Kd.V_mono (ok' := fun k_ => True) ho0 (fun k_ hk_ => trivial)) (below_size (go_b HB.out))); have n1_ := Aside0.mk (below_step (go_b HB.out) hb); clear HB; have HO184 := n0_; have HB := n1_; clear n0_ n1_; (try clear hb); (try clear hb2); (try clear hk); (try clear hi); (try clear ho0)) | ((with_reducible refine gate_dst (N := 5) rfl ?_); refine box_event ?hg (N := 5) ?hd (cs := #[.int .i64 0, .int .i64 0, .int .i64 0, .slice none 0 0]) (t := 33) ?hr ?_; (case hd => rfl); (case hg => rfl); (case hr => first | (go_simp; done) | (go_simp; rfl)); intro gb185 hg w15 hbox hb; have n0_ := Aside0.mk (Kd.V_below (Kd.V_elderB (go_V HO184.out) gb185 (Nat.le_of_eq hg.symm)) hb); have n1_ := Aside0.mk (below_step (go_b HB.out) hb); have n2_ := Aside0.mk (hbox); have n3_ := Aside0.mk ((by rw [hg]; exact (below_size (go_b HB.out)) : w.heap.size ≤ gb185)); have n4_ := n3_; clear HO184; clear HB; have HO184 := n0_; have HB := n1_; have BK185 := n2_; have GW185 := n3_; have GE185 := n4_; clear n0_ n1_ n2_ n3_ n4_; clear hb hbox hg; have hcz16_0 : w15.cell? ⟨gb185, 0, none⟩ = some (.int .i64 0) := (blk_cell BK185.out 0).trans rfl; have hcz16_1 : w15.cell? ⟨gb185, 1, none⟩ = some (.int .i64 0) := (blk_cell BK185.out 1).trans rfl; have hcz16_2 : w15.cell? ⟨gb185, 2, none⟩ = some (.int .i64 0) := (blk_cell BK185.out 2).trans rfl; have hcz16_3 : w15.cell? ⟨gb185, 3, none⟩ = some (.slice none 0 0) := (blk_cell BK185.out 3).trans rfl; have hfz16_0 := blk_frozen BK185.out 0; have hfz16_1 := blk_frozen BK185.out 1; have hfz16_2 := blk_frozen BK185.out 2; have hfz16_3 := blk_frozen BK185.out 3; obtain ⟨Ao17, co17, eo17⟩ := Kd.V_slice HO184.out; subst eo17))
      have n0_ : Aside0 (Kd.V (Kd.int .i64) 3 ((((w15.setCell ⟨gb185, 0, none⟩ (.int .i64 t179)).setCell ⟨gb185, 1, none⟩ (.int .i64 t180)).setCell ⟨gb185, 2, none⟩ (.int .i64 t181)).setCell ⟨gb185, 3, none⟩ (.slice Ao17 t182.length co17)) w.heap.size (fun k_ => k_ ≠ gb185) (.slice Ao17 t182.length co17) t182) := ⟨by (with_reducible repeat (first | apply Kd.V_alloc | apply Kd.V_drewN | apply Kd.V_drew)); exact Kd.V_mono (Kd.V_far (p := ⟨gb185, 3, none⟩) (Kd.V_far (p := ⟨gb185, 2, none⟩) (Kd.V_far (p := ⟨gb185, 1, none⟩) (Kd.V_far (p := ⟨gb185, 0, none⟩) (Kd.V_mono HO184.out (fun k_ hk => (⟨hk, hk.2⟩ : _ ∧ k_ ≠ gb185))) (fun _ hk => hk.2) (.int .i64 t179)) (fun _ hk => hk.2) (.int .i64 t180)) (fun _ hk => hk.2) (.int .i64 t181)) (fun _ hk => hk.2) (.slice Ao17 t182.length co17)) (fun _ hk => hk.1.2)⟩
      have n1_ : Aside0 (((((w15.setCell ⟨gb185, 0, none⟩ (.int .i64 t179)).setCell ⟨gb185, 1, none⟩ (.int .i64 t180)).setCell ⟨gb185, 2, none⟩ (.int .i64 t181)).setCell ⟨gb185, 3, none⟩ (.slice Ao17 t182.length co17)).heap[gb185]? = some (.cells #[.int .i64 t179, .int .i64 t180, .int .i64 t181, .slice Ao17 t182.length co17] 33 (0, 0))) := ⟨by (with_reducible repeat (first | refine blk_drewN ?_ _ | refine blk_drew ?_ | refine blk_alloc ?_ _)); refine blk_put (cs := #[.int .i64 t179, .int .i64 t180, .int .i64 t181, .slice none 0 0]) ?_ 3 _ rfl; refine blk_put (cs := #[.int .i64 t179, .int .i64 t180, .int .i64 0, .slice none 0 0]) ?_ 2 _ rfl; refine blk_put (cs := #[.int .i64 t179, .int .i64 0, .int .i64 0, .slice none 0 0]) ?_ 1 _ rfl; refine blk_put (cs := #[.int .i64 0, .int .i64 0, .int .i64 0, .slice none 0 0]) ?_ 0 _ rfl; (with_reducible repeat (first | refine blk_drewN ?_ _ | refine blk_drew ?_ | refine blk_alloc ?_ _)); exact BK185.out⟩
      have n2_ : Aside0 (Below w.heap.size w ((((w15.setCell ⟨gb185, 0, none⟩ (.int .i64 t179)).setCell ⟨gb185, 1, none⟩ (.int .i64 t180)).setCell ⟨gb185, 2, none⟩ (.int .i64 t181)).setCell ⟨gb185, 3, none⟩ (.slice Ao17 t182.length co17))) := ⟨by repeat (first | (with_reducible first | exact HB.out | apply below_alloc | apply pw_below_drewN | apply below_drew1 | refine below_set ?_ GE185.out) | exact HB.out)⟩
      (try clear HO184)
      (try clear BK185)
      (try clear HB)
      generalize ((((w15.setCell ⟨gb185, 0, none⟩ (.int .i64 t179)).setCell ⟨gb185, 1, none⟩ (.int .i64 t180)).setCell ⟨gb185, 2, none⟩ (.int .i64 t181)).setCell ⟨gb185, 3, none⟩ (.slice Ao17 t182.length co17)) = w18 at n0_ n1_ n2_ ⊢
      have HO184 := n0_
      have BK185 := n1_
      have HB := n2_
      clear n0_ n1_ n2_
      have n0_ := Aside0.mk (Kd.V_drew HO184.out)
      have n1_ := Aside0.mk (blk_drew BK185.out)
      have n2_ := Aside0.mk (below_drew1 HB.out)
      clear HO184
      clear BK185
      clear HB
      have HO184 := n0_
      have BK185 := n1_
      have HB := n2_
      clear n0_ n1_ n2_
      have p186 : 0 ≤ (0 : Int) := (by omega)
      have q186 : 0 < (l0.length : Int) := of_dec
      obtain ⟨ad186, A186_0, c186_0, A186_1, c186_1, A186_2, c186_2, e186, hx186_0, hx186_1, hx186_2, hl186_0, hi186_0, hl186_1, hi186_1, hl186_2, hi186_2⟩ := at_T100 HR0.out 0 p186 q186
      have hw186_2 := hx186_2
      (try rw [show ((0 : Int)).toNat = 0 from rfl] at hw186_2)
      (try rw [show 0 * 3 = 0 from rfl] at hw186_2)
      (try rw [Addr.add_zero'] at hw186_2)
      have hw186_1 := hx186_1
      (try rw [show ((0 : Int)).toNat = 0 from rfl] at hw186_1)
      (try rw [show 0 * 3 = 0 from rfl] at hw186_1)
      (try rw [Addr.add_zero'] at hw186_1)
      have hw186_0 := hx186_0
      (try rw [show ((0 : Int)).toNat = 0 from rfl] at hw186_0)
      (try rw [show 0 * 3 = 0 from rfl] at hw186_0)
      (try rw [Addr.add_zero'] at hw186_0)
      obtain rfl : ad178 = ad186 := (by injection e186)
      have qi186 : (0 < l0.length) = True := eq_true (by omega)
      (try rw [show ((0 : Int)).toNat = 0 from rfl] at hx186_0)
      (try rw [show 0 * 3 = 0 from rfl] at hx186_0)
      (try rw [Addr.add_zero'] at hx186_0)
      (try rw [show ((0 : Int)).toNat = 0 from rfl] at hx186_1)
      (try rw [show 0 * 3 = 0 from rfl] at hx186_1)
      (try rw [Addr.add_zero'] at hx186_1)
      (try rw [show ((0 : Int)).toNat = 0 from rfl] at hx186_2)
      (try rw [show 0 * 3 = 0 from rfl] at hx186_2)
      (try rw [Addr.add_zero'] at hx186_2)
      replace hx186_0 := cell_b HB.out hx186_0
      replace hx186_1 := cell_b HB.out hx186_1
      replace hx186_2 := cell_b HB.out hx186_2
      have HR186_0 := Aside0.mk hi186_0
      have HC186_0 := Aside0.mk hl186_0
      clear hi186_0 hl186_0
      have HR186_1 := Aside0.mk hi186_1
      have HC186_1 := Aside0.mk hl186_1
      clear hi186_1 hl186_1
      have HR186_2 := Aside0.mk hi186_2
      have HC186_2 := Aside0.mk hl186_2
      clear hi186_2 hl186_2
      replace p186 := eq_true p186
      replace q186 := eq_true q186
      have p187 : 0 ≤ (0 : Int) := (by omega)
      have q187 : 0 < (l0.length : Int) := of_dec
      obtain ⟨ad187, A187_0, c187_0, A187_1, c187_1, A187_2, c187_2, e187, hx187_0, hx187_1, hx187_2, hl187_0, hi187_0, hl187_1, hi187_1, hl187_2, hi187_2⟩ := at_T100 HR0.out 0 p187 q187
      have hw187_2 := hx187_2
      (try rw [show ((0 : Int)).toNat = 0 from rfl] at hw187_2)
      (try rw [show 0 * 3 = 0 from rfl] at hw187_2)
      (try rw [Addr.add_zero'] at hw187_2)
      have hw187_1 := hx187_1
      (try rw [show ((0 : Int)).toNat = 0 from rfl] at hw187_1)
      (try rw [show 0 * 3 = 0 from rfl] at hw187_1)
      (try rw [Addr.add_zero'] at hw187_1)
      have hw187_0 := hx187_0
      (try rw [show ((0 : Int)).toNat = 0 from rfl] at hw187_0)
      (try rw [show 0 * 3 = 0 from rfl] at hw187_0)
      (try rw [Addr.add_zero'] at hw187_0)
      obtain rfl : ad178 = ad187 := (by injection e187)
      have qi187 : (0 < l0.length) = True := eq_true (by omega)
      (try rw [show ((0 : Int)).toNat = 0 from rfl] at hx187_0)
      (try rw [show 0 * 3 = 0 from rfl] at hx187_0)
      (try rw [Addr.add_zero'] at hx187_0)
      (try rw [show ((0 : Int)).toNat = 0 from rfl] at hx187_1)
      (try rw [show 0 * 3 = 0 from rfl] at hx187_1)
      (try rw [Addr.add_zero'] at hx187_1)
      (try rw [show ((0 : Int)).toNat = 0 from rfl] at hx187_2)
      (try rw [show 0 * 3 = 0 from rfl] at hx187_2)
      (try rw [Addr.add_zero'] at hx187_2)
      replace hx187_0 := cell_b HB.out hx187_0
      replace hx187_1 := cell_b HB.out hx187_1
      replace hx187_2 := cell_b HB.out hx187_2
      have HR187_0 := Aside0.mk hi187_0
      have HC187_0 := Aside0.mk hl187_0
      clear hi187_0 hl187_0
      have HR187_1 := Aside0.mk hi187_1
      have HC187_1 := Aside0.mk hl187_1
      clear hi187_1 hl187_1
      have HR187_2 := Aside0.mk hi187_2
      have HC187_2 := Aside0.mk hl187_2
      clear hi187_2 hl187_2
      replace p187 := eq_true p187
      replace q187 := eq_true q187
      have ea_ := Option.some.inj (hx186_0.symm.trans hx187_0)
      injection ea_ with ea_ en_ ec_
      subst ea_
      subst ec_
      clear en_
      have ea_ := Option.some.inj (hx186_1.symm.trans hx187_1)
      injection ea_ with ea_ en_ ec_
      subst ea_
      subst ec_
      clear en_
      have ea_ := Option.some.inj (hx186_2.symm.trans hx187_2)
      injection ea_ with ea_ en_ ec_
      subst ea_
      subst ec_
      clear en_
      have p188 : 0 ≤ (t180 : Int) := of_dec
      have q188 : t180 < (((rd_T100 l0 0).f1).length : Int) := of_dec
      obtain ⟨ad188, e188, hx188_0, hx188_1, hx188_2, hx188_3, hx188_4⟩ := at_T103 HR187_1.out t180 p188 q188
      have hw188_4 := hx188_4
      have hw188_3 := hx188_3
      have hw188_2 := hx188_2
      have hw188_1 := hx188_1
      have hw188_0 := hx188_0
      cases e188
      replace hx188_0 := cell_b HB.out hx188_0
      replace hx188_1 := cell_b HB.out hx188_1
      replace hx188_2 := cell_b HB.out hx188_2
      replace hx188_3 := cell_b HB.out hx188_3
      replace hx188_4 := cell_b HB.out hx188_4
      replace p188 := eq_true p188
      replace q188 := eq_true q188
      refine start_ (n := 14) (S := fun w' => w'.cell? ⟨gb185, 0, none⟩ = some (.int .i64 t179) ∧ w'.cell? ⟨gb185, 1, none⟩ = some (.int .i64 t180) ∧ w'.cell? ⟨gb185, 2, none⟩ = some (.int .i64 t181) ∧ w'.cell? ⟨gb185, 3, none⟩ = some (.slice Ao17 t182.length co17) ∧ w'.cell? ad178 = some (.slice A186_0 ((rd_T100 l0 0).f0).length c186_0) ∧ w'.cell? ⟨ad178.block, ad178.off + 1, none⟩ = some (.slice (some ad188) ((rd_T100 l0 0).f1).length c186_1) ∧ w'.cell? ⟨ad178.block, ad178.off + 2, none⟩ = some (.slice A186_2 ((rd_T100 l0 0).f2.f0).length c186_2) ∧ w'.cell? ad178 = some (.slice A186_0 ((rd_T100 l0 0).f0).length c186_0) ∧ w'.cell? ⟨ad178.block, ad178.off + 1, none⟩ = some (.slice (some ad188) ((rd_T100 l0 0).f1).length c186_1) ∧ w'.cell? ⟨ad178.block, ad178.off + 2, none⟩ = some (.slice A186_2 ((rd_T100 l0 0).f2.f0).length c186_2) ∧ w'.cell? (ad188.add ((t180).toNat * 5)) = some (.int .i64 ((rd_T103 ((rd_T100 l0 0).f1) t180).f0)) ∧ w'.cell? ⟨(ad188.add ((t180).toNat * 5)).block, (ad188.add ((t180).toNat * 5)).off + 1, none⟩ = some (.int .i64 ((rd_T103 ((rd_T100 l0 0).f1) t180).f1)) ∧ w'.cell? ⟨(ad188.add ((t180).toNat * 5)).block, (ad188.add ((t180).toNat * 5)).off + 2, none⟩ = some (.int .i64 ((rd_T103 ((rd_T100 l0 0).f1) t180).f2)) ∧ w'.cell? ⟨(ad188.add ((t180).toNat * 5)).block, (ad188.add ((t180).toNat * 5)).off + 3, none⟩ = some (.bool ((rd_T103 ((rd_T100 l0 0).f1) t180).f3)) ∧ w'.cell? ⟨(ad188.add ((t180).toNat * 5)).block, (ad188.add ((t180).toNat * 5)).off + 4, none⟩ = some (.int .i64 ((rd_T103 ((rd_T100 l0 0).f1) t180).f4))) (ds := []) #[false, false, false, false, false, false, false, false, false, false, false, false, false, false] (by kernel_rfl) rfl rfl ⟨(blk_cell BK185.out 0).trans rfl, (blk_cell BK185.out 1).trans rfl, (blk_cell BK185.out 2).trans rfl, (blk_cell BK185.out 3).trans rfl, (cell_b HB.out hw186_0), (cell_b HB.out hw186_1), (cell_b HB.out hw186_2), (cell_b HB.out hw187_0), (cell_b HB.out hw187_1), (cell_b HB.out hw187_2), (cell_b HB.out hw188_0), (cell_b HB.out hw188_1), (cell_b HB.out hw188_2), (cell_b HB.out hw188_3), (cell_b HB.out hw188_4)⟩ (fun hHeld => ?_); refine with_tabW view_File_Word.tab4 view_File_Word.bits4 (fun HT_ HW_ => ?_)
      generalize w18.drew = w19 at HO184 BK185 HB HR186_0 HR186_1 HR186_2 HR187_0 HR187_1 HR187_2 hx186_0 hx186_1 hx186_2 hx187_0 hx187_1 hx187_2 hx188_0 hx188_1 hx188_2 hx188_3 hx188_4 hHeld ⊢
      refine pure_ (i := 0) (N := some 24) (v := ?_) (a' := ?_) (bl_ 14 1) rfl rfl (any_of HT_.out (by kernel_rfl)) (fun _ _ _ h => h) (Or.inl ⟨by rfl, ?_⟩) ?_ ?_; rotate_left; { intro w'; go_simp; with_reducible rfl }; rotate_left; { simp only [Act.put, List.setIfInBounds_toArray, List.set_cons_zero, List.set_cons_succ, i64_w, i32_w]; rfl }
      refine pure_ (i := 1) (N := some 25) (v := ?_) (a' := ?_) (bl_ 14 3) rfl rfl (any_of HT_.out (by kernel_rfl)) (fun _ _ _ h => h) (Or.inl ⟨by rfl, ?_⟩) ?_ ?_; rotate_left; { intro w'; go_simp; with_reducible rfl }; rotate_left; { simp only [Act.put, List.setIfInBounds_toArray, List.set_cons_zero, List.set_cons_succ, i64_w, i32_w]; rfl }
      refine pure_ (i := 2) (N := some 26) (v := ?_) (a' := ?_) (bl_ 14 7) rfl rfl (any_of HT_.out (by kernel_rfl)) (fun _ _ _ h => h) (Or.inl ⟨by rfl, ?_⟩) ?_ ?_; rotate_left; { intro w'; go_simp; with_reducible rfl }; rotate_left; { simp only [Act.put, List.setIfInBounds_toArray, List.set_cons_zero, List.set_cons_succ, i64_w, i32_w]; rfl }
      refine pure_ (i := 4) (N := some 28) (v := ?_) (a' := ?_) (bl_ 14 23) rfl rfl (any_of HT_.out (by kernel_rfl)) (fun _ _ _ h => h) (Or.inl ⟨by rfl, ?_⟩) ?_ ?_; rotate_left; { intro w'; go_simp; with_reducible rfl }; rotate_left; { simp only [Act.put, List.setIfInBounds_toArray, List.set_cons_zero, List.set_cons_succ, i64_w, i32_w]; rfl }
      refine pure_ (i := 5) (N := some 29) (v := ?_) (a' := ?_) (bl_ 14 55) rfl rfl (any_of HT_.out (by kernel_rfl)) (fun _ _ _ h => h) (Or.inl ⟨by rfl, ?_⟩) ?_ ?_; rotate_left; { intro w'; go_simp; with_reducible rfl }; rotate_left; { simp only [Act.put, List.setIfInBounds_toArray, List.set_cons_zero, List.set_cons_succ, i64_w, i32_w]; rfl }
      refine pure_ (i := 6) (N := some 30) (v := ?_) (a' := ?_) (bl_ 14 119) rfl rfl (any_of HT_.out (by kernel_rfl)) (fun _ _ _ h => h) (Or.inl ⟨by rfl, ?_⟩) ?_ ?_; rotate_left; { intro w'; go_simp; with_reducible rfl }; rotate_left; { simp only [Act.put, List.setIfInBounds_toArray, List.set_cons_zero, List.set_cons_succ, i64_w, i32_w]; rfl }
      refine pure_ (i := 8) (N := some 32) (v := ?_) (a' := ?_) (bl_ 14 375) rfl rfl (any_of HT_.out (by kernel_rfl)) (fun _ _ _ h => h) (Or.inl ⟨by rfl, ?_⟩) ?_ ?_; rotate_left; { intro w'; go_simp; with_reducible rfl }; rotate_left; { simp only [Act.put, List.setIfInBounds_toArray, List.set_cons_zero, List.set_cons_succ, i64_w, i32_w]; rfl }
      refine take_ (i := 3) (N := some 27) (v := ?_) (a' := ?_) (bl_ 14 383) rfl rfl (take_ofW HT_.out HW_.out (by kernel_rfl)) (fun _ _ _ h => h) (Or.inl ⟨by rfl, ?_⟩) hHeld ?_ ?_; rotate_left; { rintro w' ⟨s0, s1, s2, s3, s4, s5, s6, s7, s8, s9, s10, s11, s12, s13, s14⟩; go_simp; with_reducible rfl }; rotate_left; { simp only [Act.put, List.setIfInBounds_toArray, List.set_cons_zero, List.set_cons_succ, i64_w, i32_w]; rfl }
      refine take_ (i := 7) (N := some 31) (v := ?_) (a' := ?_) (bl_ 14 511) rfl rfl (take_ofW HT_.out HW_.out (by kernel_rfl)) (fun _ _ _ h => h) (Or.inl ⟨by rfl, ?_⟩) hHeld ?_ ?_; rotate_left; { rintro w' ⟨s0, s1, s2, s3, s4, s5, s6, s7, s8, s9, s10, s11, s12, s13, s14⟩; go_simp; with_reducible rfl }; rotate_left; { simp only [Act.put, List.setIfInBounds_toArray, List.set_cons_zero, List.set_cons_succ, i64_w, i32_w]; rfl }
      refine take_ (i := 9) (N := some 33) (v := ?_) (a' := ?_) (bl_ 14 1023) rfl rfl (take_ofW HT_.out HW_.out (by kernel_rfl)) (fun _ _ _ h => h) (Or.inl ⟨by rfl, ?_⟩) hHeld ?_ ?_; rotate_left; { rintro w' ⟨s0, s1, s2, s3, s4, s5, s6, s7, s8, s9, s10, s11, s12, s13, s14⟩; go_simp; with_reducible rfl }; rotate_left; { simp only [Act.put, List.setIfInBounds_toArray, List.set_cons_zero, List.set_cons_succ, i64_w, i32_w]; rfl }
      refine pure_ (i := 10) (N := some 34) (v := ?_) (a' := ?_) (bl_ 14 2047) rfl rfl (any_of HT_.out (by kernel_rfl)) (fun _ _ _ h => h) (Or.inl ⟨by rfl, ?_⟩) ?_ ?_; rotate_left; { intro w'; go_simp; with_reducible rfl }; rotate_left; { simp only [Act.put, List.setIfInBounds_toArray, List.set_cons_zero, List.set_cons_succ, i64_w, i32_w]; rfl }
      refine take_ (i := 11) (N := some 35) (v := ?_) (a' := ?_) (bl_ 14 4095) rfl rfl (take_ofW HT_.out HW_.out (by kernel_rfl)) (fun _ _ _ h => h) (Or.inl ⟨by rfl, ?_⟩) hHeld ?_ ?_; rotate_left; { rintro w' ⟨s0, s1, s2, s3, s4, s5, s6, s7, s8, s9, s10, s11, s12, s13, s14⟩; go_simp; with_reducible rfl }; rotate_left; { simp only [Act.put, List.setIfInBounds_toArray, List.set_cons_zero, List.set_cons_succ, i64_w, i32_w]; rfl }
      refine one_ (i := 12) (N := some 36) (bl_ 14 8191) rfl rfl (one_of HT_.out (by kernel_rfl)) (by decide) (fun K hK => ?_)
      refine goes_ Tryd.func68 (by kernel_rfl) rfl #[.slice A186_0 ((rd_T100 l0 0).f0).length c186_0, .agg #[.int .i64 ((rd_T103 ((rd_T100 l0 0).f1) t180).f0), .int .i64 ((rd_T103 ((rd_T100 l0 0).f1) t180).f1), .int .i64 ((rd_T103 ((rd_T100 l0 0).f1) t180).f2), .bool ((rd_T103 ((rd_T100 l0 0).f1) t180).f3), .int .i64 ((rd_T103 ((rd_T100 l0 0).f1) t180).f4)]] (by rfl) rfl rfl (by (try simp only [List.map_toArray, List.map_cons, List.map_nil]); first | done | rfl | (simp only [List.length_drop, List.length_take]; rfl)) ?_
      with_reducible refine (scan_Text.calls _ _ ((rd_T100 l0 0).f0) ((rd_T103 ((rd_T100 l0 0).f1) t180).f0) ((rd_T103 ((rd_T100 l0 0).f1) t180).f1) ((rd_T103 ((rd_T100 l0 0).f1) t180).f2) ((rd_T103 ((rd_T100 l0 0).f1) t180).f3) ((rd_T103 ((rd_T100 l0 0).f1) t180).f4) t189 _ ?side1 ?side2 A13.out).mono ?_
      (case side1 => repeat (first | exact (Kd.C_below HR186_0.out HB.out) | (with_reducible refine Kd.C_alloc ?_ _) | (with_reducible refine Kd.C_drewN ?_ _) | (with_reducible refine Kd.C_drew ?_)))
      (case side2 => exact HC186_0.out)
      rintro e w20 ⟨rfl, hb⟩
      refine ⟨_, rfl, ?_⟩
      have n0_ := Aside0.mk (Kd.V_below (go_V HO184.out) hb)
      have n1_ := Aside0.mk (blk_below (g := gb185) (o := .cells #[.int .i64 t179, .int .i64 t180, .int .i64 t181, .slice Ao17 t182.length co17] 33 (0, 0)) (go_k BK185.out) hb)
      have n2_ := Aside0.mk (below_step (go_b1 HB.out GE185.out) hb)
      clear HO184
      clear BK185
      clear HB
      have HO184 := n0_
      have BK185 := n1_
      have HB := n2_
      clear n0_ n1_ n2_
      (try clear hb)
      (try clear hb2)
      (try clear hk)
      (try clear hi)
      refine hK.out _ _ ⟨(blk_cell BK185.out 0).trans rfl, (blk_cell BK185.out 1).trans rfl, (blk_cell BK185.out 2).trans rfl, (blk_cell BK185.out 3).trans rfl, (cell_b HB.out hw186_0), (cell_b HB.out hw186_1), (cell_b HB.out hw186_2), (cell_b HB.out hw187_0), (cell_b HB.out hw187_1), (cell_b HB.out hw187_2), (cell_b HB.out hw188_0), (cell_b HB.out hw188_1), (cell_b HB.out hw188_2), (cell_b HB.out hw188_3), (cell_b HB.out hw188_4)⟩ (fun hHeld => ?_)
      clear hK K
      refine norm_ (a' := ?_) ?_ ?_; rotate_left; { show Act.put _ (some 36) _ = _; simp only [Act.put, List.setIfInBounds_toArray, List.set_cons_zero, List.set_cons_succ, i64_w, i32_w]; rfl }
      refine pure_ (i := 13) (N := some 4) (v := ?_) (a' := ?_) (bl_ 14 16383) rfl rfl (any_of HT_.out (by kernel_rfl)) (fun _ _ _ h => h) (Or.inl ⟨by rfl, ?_⟩) ?_ ?_; rotate_left; { intro w'; go_simp; with_reducible rfl }; rotate_left; { simp only [Act.put, List.setIfInBounds_toArray, List.set_cons_zero, List.set_cons_succ, i64_w, i32_w]; rfl }
      refine done_ (done_of HT_.out (by kernel_rfl)) ?_
      try go_wp2
      go_ret
      exact ⟨by first | rfl | (simp [*, errW_none, errW_some, erT_no, erV_no, erT_at, erV_at] <;> rfl), by repeat (first | (with_reducible first | exact HB.out | apply below_alloc | apply pw_below_drewN | apply below_drew1 | refine below_set ?_ GE185.out) | exact HB.out)⟩
     ·rw [if_neg c12] at H
      exact absurd H (by simp)
    ·rw [if_neg c11] at H
     exact absurd H (by simp)
  ·rw [if_neg c5] at H
   have c5b0 : (t179 == 2) = false := beq_eq_false_iff_ne.mpr c5
   have c5b1 : (t179 != 2) = true := bne_iff_ne.mpr c5
   by_cases c21 : t179 = 3
   ·rw [if_pos c21] at H
    have c21b0 : (t179 == 3) = true := beq_iff_eq.mpr c21
    have c21b1 : (t179 != 3) = false := bne_eq_false_iff_eq.mpr c21
    clear c21
    by_cases c22 : t180 ≥ t181
    ·rw [if_pos c22] at H
     have c22b0 : decide (t181 ≤ t180) = true := decide_eq_true c22
     clear c22
     obtain rfl := Option.some.inj H
     have p178 : 0 ≤ (0 : Int) := (by omega)
     have q178 : 0 < (l0.length : Int) := of_dec
     obtain ⟨ad178, A178_0, c178_0, A178_1, c178_1, A178_2, c178_2, e178, hx178_0, hx178_1, hx178_2, hl178_0, hi178_0, hl178_1, hi178_1, hl178_2, hi178_2⟩ := at_T100 HR0.out 0 p178 q178
     cases e178
     have qi178 : (0 < l0.length) = True := eq_true (by omega)
     (try rw [show ((0 : Int)).toNat = 0 from rfl] at hx178_0)
     (try rw [show 0 * 3 = 0 from rfl] at hx178_0)
     (try rw [Addr.add_zero'] at hx178_0)
     (try rw [show ((0 : Int)).toNat = 0 from rfl] at hx178_1)
     (try rw [show 0 * 3 = 0 from rfl] at hx178_1)
     (try rw [Addr.add_zero'] at hx178_1)
     (try rw [show ((0 : Int)).toNat = 0 from rfl] at hx178_2)
     (try rw [show 0 * 3 = 0 from rfl] at hx178_2)
     (try rw [Addr.add_zero'] at hx178_2)
     have HR178_0 := Aside0.mk hi178_0
     have HC178_0 := Aside0.mk hl178_0
     clear hi178_0 hl178_0
     have HR178_1 := Aside0.mk hi178_1
     have HC178_1 := Aside0.mk hl178_1
     clear hi178_1 hl178_1
     have HR178_2 := Aside0.mk hi178_2
     have HC178_2 := Aside0.mk hl178_2
     clear hi178_2 hl178_2
     replace p178 := eq_true p178
     replace q178 := eq_true q178
     go_enter Tryd.func42, Tryd.ntmps42
     go_wp2_with (first | ((with_reducible refine gate_callee (f := 40) rfl ?_); refine goesL_ (some 8) rfl rfl Tryd.func40 (by kernel_rfl) rfl #[.pointer (some ad178), .int .i64 a1] rfl (by (try simp only [List.map_toArray, List.map_cons, List.map_nil]); first | done | rfl | (simp only [List.length_drop, List.length_take]; rfl)) ?_; (with_reducible refine (view_File_Node.calls (fun k_ => k_ < w.heap.size) _ c0 l0 a1 t179 t180 t181 t182 _ ?side1 A4.out).mono ?_); (case side1 => exact Kd.V_mk HC0.out (Kd.F_below (Kd.C_F k100_heap HR0.out) (go_b HB.out))); rintro e w23 ⟨v183, rfl, ho0, hb⟩; refine ⟨_, rfl, ?_⟩; have n0_ := Aside0.mk (Kd.V_lower (Kd.V_mono (ok' := fun k_ => True) ho0 (fun k_ hk_ => trivial)) (below_size (go_b HB.out))); have n1_ := Aside0.mk (below_step (go_b HB.out) hb); clear HB; have HO184 := n0_; have HB := n1_; clear n0_ n1_; (try clear hb); (try clear hb2); (try clear hk); (try clear hi); (try clear ho0)) | ((with_reducible refine gate_dst (N := 5) rfl ?_); refine box_event ?hg (N := 5) ?hd (cs := #[.int .i64 0, .int .i64 0, .int .i64 0, .slice none 0 0]) (t := 33) ?hr ?_; (case hd => rfl); (case hg => rfl); (case hr => first | (go_simp; done) | (go_simp; rfl)); intro gb185 hg w24 hbox hb; have n0_ := Aside0.mk (Kd.V_below (Kd.V_elderB (go_V HO184.out) gb185 (Nat.le_of_eq hg.symm)) hb); have n1_ := Aside0.mk (below_step (go_b HB.out) hb); have n2_ := Aside0.mk (hbox); have n3_ := Aside0.mk ((by rw [hg]; exact (below_size (go_b HB.out)) : w.heap.size ≤ gb185)); have n4_ := n3_; clear HO184; clear HB; have HO184 := n0_; have HB := n1_; have BK185 := n2_; have GW185 := n3_; have GE185 := n4_; clear n0_ n1_ n2_ n3_ n4_; clear hb hbox hg; have hcz25_0 : w24.cell? ⟨gb185, 0, none⟩ = some (.int .i64 0) := (blk_cell BK185.out 0).trans rfl; have hcz25_1 : w24.cell? ⟨gb185, 1, none⟩ = some (.int .i64 0) := (blk_cell BK185.out 1).trans rfl; have hcz25_2 : w24.cell? ⟨gb185, 2, none⟩ = some (.int .i64 0) := (blk_cell BK185.out 2).trans rfl; have hcz25_3 : w24.cell? ⟨gb185, 3, none⟩ = some (.slice none 0 0) := (blk_cell BK185.out 3).trans rfl; have hfz25_0 := blk_frozen BK185.out 0; have hfz25_1 := blk_frozen BK185.out 1; have hfz25_2 := blk_frozen BK185.out 2; have hfz25_3 := blk_frozen BK185.out 3; obtain ⟨Ao26, co26, eo26⟩ := Kd.V_slice HO184.out; subst eo26))
     go_ret
     exact ⟨by first | rfl | (simp [*, errW_none, errW_some, erT_no, erV_no, erT_at, erV_at] <;> rfl), by repeat (first | (with_reducible first | exact HB.out | apply below_alloc | apply pw_below_drewN | apply below_drew1 | refine below_set ?_ GE185.out) | exact HB.out)⟩
    ·rw [if_neg c22] at H
     have c22b0 : decide (t181 ≤ t180) = false := decide_eq_false c22
     clear c22
     by_cases c27 : 0 ≤ t180
     ·rw [if_pos c27] at H
      have c27b0 : decide (0 ≤ t180) = true := decide_eq_true c27
      clear c27
      by_cases c28 : t180 < (((rd_T100 l0 0).f1).length : Int)
      ·rw [if_pos c28] at H
       have c28b0 : decide (t180 < (((rd_T100 l0 0).f1).length : Int)) = true := decide_eq_true c28
       clear c28
       replace H := Option.bind_eq_some_iff.mp H
       obtain ⟨t193, A290, H⟩ := H
       replace H : (some t193) = some r := H
       have A29 := Aside0.mk A290
       clear A290
       obtain rfl := Option.some.inj H
       have p178 : 0 ≤ (0 : Int) := (by omega)
       have q178 : 0 < (l0.length : Int) := of_dec
       obtain ⟨ad178, A178_0, c178_0, A178_1, c178_1, A178_2, c178_2, e178, hx178_0, hx178_1, hx178_2, hl178_0, hi178_0, hl178_1, hi178_1, hl178_2, hi178_2⟩ := at_T100 HR0.out 0 p178 q178
       cases e178
       have qi178 : (0 < l0.length) = True := eq_true (by omega)
       (try rw [show ((0 : Int)).toNat = 0 from rfl] at hx178_0)
       (try rw [show 0 * 3 = 0 from rfl] at hx178_0)
       (try rw [Addr.add_zero'] at hx178_0)
       (try rw [show ((0 : Int)).toNat = 0 from rfl] at hx178_1)
       (try rw [show 0 * 3 = 0 from rfl] at hx178_1)
       (try rw [Addr.add_zero'] at hx178_1)
       (try rw [show ((0 : Int)).toNat = 0 from rfl] at hx178_2)
       (try rw [show 0 * 3 = 0 from rfl] at hx178_2)
       (try rw [Addr.add_zero'] at hx178_2)
       have HR178_0 := Aside0.mk hi178_0
       have HC178_0 := Aside0.mk hl178_0
       clear hi178_0 hl178_0
       have HR178_1 := Aside0.mk hi178_1
       have HC178_1 := Aside0.mk hl178_1
       clear hi178_1 hl178_1
       have HR178_2 := Aside0.mk hi178_2
       have HC178_2 := Aside0.mk hl178_2
       clear hi178_2 hl178_2
       replace p178 := eq_true p178
       replace q178 := eq_true q178
       go_enter Tryd.func42, Tryd.ntmps42
       try go_wp2_with (first | ((with_reducible refine gate_callee (f := 40) rfl ?_); refine goesL_ (some 8) rfl rfl Tryd.func40 (by kernel_rfl) rfl #[.pointer (some ad178), .int .i64 a1] rfl (by (try simp only [List.map_toArray, List.map_cons, List.map_nil]); first | done | rfl | (simp only [List.length_drop, List.length_take]; rfl)) ?_; (with_reducible refine (view_File_Node.calls (fun k_ => k_ < w.heap.size) _ c0 l0 a1 t179 t180 t181 t182 _ ?side1 A4.out).mono ?_); (case side1 => exact Kd.V_mk HC0.out (Kd.F_below (Kd.C_F k100_heap HR0.out) (go_b HB.out))); rintro e w30 ⟨v183, rfl, ho0, hb⟩; refine ⟨_, rfl, ?_⟩; have n0_ := Aside0.mk (Kd.V_lower (Kd.V_mono (ok' := fun k_ => True) ho0 (fun k_ hk_ => trivial)) (below_size (go_b HB.out))); have n1_ := Aside0.mk (below_step (go_b HB.out) hb); clear HB; have HO184 := n0_; have HB := n1_; clear n0_ n1_; (try clear hb); (try clear hb2); (try clear hk); (try clear hi); (try clear ho0)) | ((with_reducible refine gate_dst (N := 5) rfl ?_); refine box_event ?hg (N := 5) ?hd (cs := #[.int .i64 0, .int .i64 0, .int .i64 0, .slice none 0 0]) (t := 33) ?hr ?_; (case hd => rfl); (case hg => rfl); (case hr => first | (go_simp; done) | (go_simp; rfl)); intro gb185 hg w31 hbox hb; have n0_ := Aside0.mk (Kd.V_below (Kd.V_elderB (go_V HO184.out) gb185 (Nat.le_of_eq hg.symm)) hb); have n1_ := Aside0.mk (below_step (go_b HB.out) hb); have n2_ := Aside0.mk (hbox); have n3_ := Aside0.mk ((by rw [hg]; exact (below_size (go_b HB.out)) : w.heap.size ≤ gb185)); have n4_ := n3_; clear HO184; clear HB; have HO184 := n0_; have HB := n1_; have BK185 := n2_; have GW185 := n3_; have GE185 := n4_; clear n0_ n1_ n2_ n3_ n4_; clear hb hbox hg; have hcz32_0 : w31.cell? ⟨gb185, 0, none⟩ = some (.int .i64 0) := (blk_cell BK185.out 0).trans rfl; have hcz32_1 : w31.cell? ⟨gb185, 1, none⟩ = some (.int .i64 0) := (blk_cell BK185.out 1).trans rfl; have hcz32_2 : w31.cell? ⟨gb185, 2, none⟩ = some (.int .i64 0) := (blk_cell BK185.out 2).trans rfl; have hcz32_3 : w31.cell? ⟨gb185, 3, none⟩ = some (.slice none 0 0) := (blk_cell BK185.out 3).trans rfl; have hfz32_0 := blk_frozen BK185.out 0; have hfz32_1 := blk_frozen BK185.out 1; have hfz32_2 := blk_frozen BK185.out 2; have hfz32_3 := blk_frozen BK185.out 3; obtain ⟨Ao33, co33, eo33⟩ := Kd.V_slice HO184.out; subst eo33))
       have n0_ : Aside0 (Kd.V (Kd.int .i64) 3 ((((w31.setCell ⟨gb185, 0, none⟩ (.int .i64 t179)).setCell ⟨gb185, 1, none⟩ (.int .i64 t180)).setCell ⟨gb185, 2, none⟩ (.int .i64 t181)).setCell ⟨gb185, 3, none⟩ (.slice Ao33 t182.length co33)) w.heap.size (fun k_ => k_ ≠ gb185) (.slice Ao33 t182.length co33) t182) := ⟨by (with_reducible repeat (first | apply Kd.V_alloc | apply Kd.V_drewN | apply Kd.V_drew)); exact Kd.V_mono (Kd.V_far (p := ⟨gb185, 3, none⟩) (Kd.V_far (p := ⟨gb185, 2, none⟩) (Kd.V_far (p := ⟨gb185, 1, none⟩) (Kd.V_far (p := ⟨gb185, 0, none⟩) (Kd.V_mono HO184.out (fun k_ hk => (⟨hk, hk.2⟩ : _ ∧ k_ ≠ gb185))) (fun _ hk => hk.2) (.int .i64 t179)) (fun _ hk => hk.2) (.int .i64 t180)) (fun _ hk => hk.2) (.int .i64 t181)) (fun _ hk => hk.2) (.slice Ao33 t182.length co33)) (fun _ hk => hk.1.2)⟩
       have n1_ : Aside0 (((((w31.setCell ⟨gb185, 0, none⟩ (.int .i64 t179)).setCell ⟨gb185, 1, none⟩ (.int .i64 t180)).setCell ⟨gb185, 2, none⟩ (.int .i64 t181)).setCell ⟨gb185, 3, none⟩ (.slice Ao33 t182.length co33)).heap[gb185]? = some (.cells #[.int .i64 t179, .int .i64 t180, .int .i64 t181, .slice Ao33 t182.length co33] 33 (0, 0))) := ⟨by (with_reducible repeat (first | refine blk_drewN ?_ _ | refine blk_drew ?_ | refine blk_alloc ?_ _)); refine blk_put (cs := #[.int .i64 t179, .int .i64 t180, .int .i64 t181, .slice none 0 0]) ?_ 3 _ rfl; refine blk_put (cs := #[.int .i64 t179, .int .i64 t180, .int .i64 0, .slice none 0 0]) ?_ 2 _ rfl; refine blk_put (cs := #[.int .i64 t179, .int .i64 0, .int .i64 0, .slice none 0 0]) ?_ 1 _ rfl; refine blk_put (cs := #[.int .i64 0, .int .i64 0, .int .i64 0, .slice none 0 0]) ?_ 0 _ rfl; (with_reducible repeat (first | refine blk_drewN ?_ _ | refine blk_drew ?_ | refine blk_alloc ?_ _)); exact BK185.out⟩
       have n2_ : Aside0 (Below w.heap.size w ((((w31.setCell ⟨gb185, 0, none⟩ (.int .i64 t179)).setCell ⟨gb185, 1, none⟩ (.int .i64 t180)).setCell ⟨gb185, 2, none⟩ (.int .i64 t181)).setCell ⟨gb185, 3, none⟩ (.slice Ao33 t182.length co33))) := ⟨by repeat (first | (with_reducible first | exact HB.out | apply below_alloc | apply pw_below_drewN | apply below_drew1 | refine below_set ?_ GE185.out) | exact HB.out)⟩
       (try clear HO184)
       (try clear BK185)
       (try clear HB)
       generalize ((((w31.setCell ⟨gb185, 0, none⟩ (.int .i64 t179)).setCell ⟨gb185, 1, none⟩ (.int .i64 t180)).setCell ⟨gb185, 2, none⟩ (.int .i64 t181)).setCell ⟨gb185, 3, none⟩ (.slice Ao33 t182.length co33)) = w34 at n0_ n1_ n2_ ⊢
       have HO184 := n0_
       have BK185 := n1_
       have HB := n2_
       clear n0_ n1_ n2_
       have n0_ := Aside0.mk (Kd.V_drew HO184.out)
       have n1_ := Aside0.mk (blk_drew BK185.out)
       have n2_ := Aside0.mk (below_drew1 HB.out)
       clear HO184
       clear BK185
       clear HB
       have HO184 := n0_
       have BK185 := n1_
       have HB := n2_
       clear n0_ n1_ n2_
       have p190 : 0 ≤ (0 : Int) := (by omega)
       have q190 : 0 < (l0.length : Int) := of_dec
       obtain ⟨ad190, A190_0, c190_0, A190_1, c190_1, A190_2, c190_2, e190, hx190_0, hx190_1, hx190_2, hl190_0, hi190_0, hl190_1, hi190_1, hl190_2, hi190_2⟩ := at_T100 HR0.out 0 p190 q190
       have hw190_2 := hx190_2
       (try rw [show ((0 : Int)).toNat = 0 from rfl] at hw190_2)
       (try rw [show 0 * 3 = 0 from rfl] at hw190_2)
       (try rw [Addr.add_zero'] at hw190_2)
       have hw190_1 := hx190_1
       (try rw [show ((0 : Int)).toNat = 0 from rfl] at hw190_1)
       (try rw [show 0 * 3 = 0 from rfl] at hw190_1)
       (try rw [Addr.add_zero'] at hw190_1)
       have hw190_0 := hx190_0
       (try rw [show ((0 : Int)).toNat = 0 from rfl] at hw190_0)
       (try rw [show 0 * 3 = 0 from rfl] at hw190_0)
       (try rw [Addr.add_zero'] at hw190_0)
       obtain rfl : ad178 = ad190 := (by injection e190)
       have qi190 : (0 < l0.length) = True := eq_true (by omega)
       (try rw [show ((0 : Int)).toNat = 0 from rfl] at hx190_0)
       (try rw [show 0 * 3 = 0 from rfl] at hx190_0)
       (try rw [Addr.add_zero'] at hx190_0)
       (try rw [show ((0 : Int)).toNat = 0 from rfl] at hx190_1)
       (try rw [show 0 * 3 = 0 from rfl] at hx190_1)
       (try rw [Addr.add_zero'] at hx190_1)
       (try rw [show ((0 : Int)).toNat = 0 from rfl] at hx190_2)
       (try rw [show 0 * 3 = 0 from rfl] at hx190_2)
       (try rw [Addr.add_zero'] at hx190_2)
       replace hx190_0 := cell_b HB.out hx190_0
       replace hx190_1 := cell_b HB.out hx190_1
       replace hx190_2 := cell_b HB.out hx190_2
       have HR190_0 := Aside0.mk hi190_0
       have HC190_0 := Aside0.mk hl190_0
       clear hi190_0 hl190_0
       have HR190_1 := Aside0.mk hi190_1
       have HC190_1 := Aside0.mk hl190_1
       clear hi190_1 hl190_1
       have HR190_2 := Aside0.mk hi190_2
       have HC190_2 := Aside0.mk hl190_2
       clear hi190_2 hl190_2
       replace p190 := eq_true p190
       replace q190 := eq_true q190
       have p191 : 0 ≤ (0 : Int) := (by omega)
       have q191 : 0 < (l0.length : Int) := of_dec
       obtain ⟨ad191, A191_0, c191_0, A191_1, c191_1, A191_2, c191_2, e191, hx191_0, hx191_1, hx191_2, hl191_0, hi191_0, hl191_1, hi191_1, hl191_2, hi191_2⟩ := at_T100 HR0.out 0 p191 q191
       have hw191_2 := hx191_2
       (try rw [show ((0 : Int)).toNat = 0 from rfl] at hw191_2)
       (try rw [show 0 * 3 = 0 from rfl] at hw191_2)
       (try rw [Addr.add_zero'] at hw191_2)
       have hw191_1 := hx191_1
       (try rw [show ((0 : Int)).toNat = 0 from rfl] at hw191_1)
       (try rw [show 0 * 3 = 0 from rfl] at hw191_1)
       (try rw [Addr.add_zero'] at hw191_1)
       have hw191_0 := hx191_0
       (try rw [show ((0 : Int)).toNat = 0 from rfl] at hw191_0)
       (try rw [show 0 * 3 = 0 from rfl] at hw191_0)
       (try rw [Addr.add_zero'] at hw191_0)
       obtain rfl : ad178 = ad191 := (by injection e191)
       have qi191 : (0 < l0.length) = True := eq_true (by omega)
       (try rw [show ((0 : Int)).toNat = 0 from rfl] at hx191_0)
       (try rw [show 0 * 3 = 0 from rfl] at hx191_0)
       (try rw [Addr.add_zero'] at hx191_0)
       (try rw [show ((0 : Int)).toNat = 0 from rfl] at hx191_1)
       (try rw [show 0 * 3 = 0 from rfl] at hx191_1)
       (try rw [Addr.add_zero'] at hx191_1)
       (try rw [show ((0 : Int)).toNat = 0 from rfl] at hx191_2)
       (try rw [show 0 * 3 = 0 from rfl] at hx191_2)
       (try rw [Addr.add_zero'] at hx191_2)
       replace hx191_0 := cell_b HB.out hx191_0
       replace hx191_1 := cell_b HB.out hx191_1
       replace hx191_2 := cell_b HB.out hx191_2
       have HR191_0 := Aside0.mk hi191_0
       have HC191_0 := Aside0.mk hl191_0
       clear hi191_0 hl191_0
       have HR191_1 := Aside0.mk hi191_1
       have HC191_1 := Aside0.mk hl191_1
       clear hi191_1 hl191_1
       have HR191_2 := Aside0.mk hi191_2
       have HC191_2 := Aside0.mk hl191_2
       clear hi191_2 hl191_2
       replace p191 := eq_true p191
       replace q191 := eq_true q191
       have ea_ := Option.some.inj (hx190_0.symm.trans hx191_0)
       injection ea_ with ea_ en_ ec_
       subst ea_
       subst ec_
       clear en_
       have ea_ := Option.some.inj (hx190_1.symm.trans hx191_1)
       injection ea_ with ea_ en_ ec_
       subst ea_
       subst ec_
       clear en_
       have ea_ := Option.some.inj (hx190_2.symm.trans hx191_2)
       injection ea_ with ea_ en_ ec_
       subst ea_
       subst ec_
       clear en_
       have p192 : 0 ≤ (t180 : Int) := of_dec
       have q192 : t180 < (((rd_T100 l0 0).f1).length : Int) := of_dec
       obtain ⟨ad192, e192, hx192_0, hx192_1, hx192_2, hx192_3, hx192_4⟩ := at_T103 HR191_1.out t180 p192 q192
       have hw192_4 := hx192_4
       have hw192_3 := hx192_3
       have hw192_2 := hx192_2
       have hw192_1 := hx192_1
       have hw192_0 := hx192_0
       cases e192
       replace hx192_0 := cell_b HB.out hx192_0
       replace hx192_1 := cell_b HB.out hx192_1
       replace hx192_2 := cell_b HB.out hx192_2
       replace hx192_3 := cell_b HB.out hx192_3
       replace hx192_4 := cell_b HB.out hx192_4
       replace p192 := eq_true p192
       replace q192 := eq_true q192
       refine start_ (n := 14) (S := fun w' => w'.cell? ⟨gb185, 0, none⟩ = some (.int .i64 t179) ∧ w'.cell? ⟨gb185, 1, none⟩ = some (.int .i64 t180) ∧ w'.cell? ⟨gb185, 2, none⟩ = some (.int .i64 t181) ∧ w'.cell? ⟨gb185, 3, none⟩ = some (.slice Ao33 t182.length co33) ∧ w'.cell? ad178 = some (.slice A190_0 ((rd_T100 l0 0).f0).length c190_0) ∧ w'.cell? ⟨ad178.block, ad178.off + 1, none⟩ = some (.slice (some ad192) ((rd_T100 l0 0).f1).length c190_1) ∧ w'.cell? ⟨ad178.block, ad178.off + 2, none⟩ = some (.slice A190_2 ((rd_T100 l0 0).f2.f0).length c190_2) ∧ w'.cell? ad178 = some (.slice A190_0 ((rd_T100 l0 0).f0).length c190_0) ∧ w'.cell? ⟨ad178.block, ad178.off + 1, none⟩ = some (.slice (some ad192) ((rd_T100 l0 0).f1).length c190_1) ∧ w'.cell? ⟨ad178.block, ad178.off + 2, none⟩ = some (.slice A190_2 ((rd_T100 l0 0).f2.f0).length c190_2) ∧ w'.cell? (ad192.add ((t180).toNat * 5)) = some (.int .i64 ((rd_T103 ((rd_T100 l0 0).f1) t180).f0)) ∧ w'.cell? ⟨(ad192.add ((t180).toNat * 5)).block, (ad192.add ((t180).toNat * 5)).off + 1, none⟩ = some (.int .i64 ((rd_T103 ((rd_T100 l0 0).f1) t180).f1)) ∧ w'.cell? ⟨(ad192.add ((t180).toNat * 5)).block, (ad192.add ((t180).toNat * 5)).off + 2, none⟩ = some (.int .i64 ((rd_T103 ((rd_T100 l0 0).f1) t180).f2)) ∧ w'.cell? ⟨(ad192.add ((t180).toNat * 5)).block, (ad192.add ((t180).toNat * 5)).off + 3, none⟩ = some (.bool ((rd_T103 ((rd_T100 l0 0).f1) t180).f3)) ∧ w'.cell? ⟨(ad192.add ((t180).toNat * 5)).block, (ad192.add ((t180).toNat * 5)).off + 4, none⟩ = some (.int .i64 ((rd_T103 ((rd_T100 l0 0).f1) t180).f4))) (ds := []) #[false, false, false, false, false, false, false, false, false, false, false, false, false, false] (by kernel_rfl) rfl rfl ⟨(blk_cell BK185.out 0).trans rfl, (blk_cell BK185.out 1).trans rfl, (blk_cell BK185.out 2).trans rfl, (blk_cell BK185.out 3).trans rfl, (cell_b HB.out hw190_0), (cell_b HB.out hw190_1), (cell_b HB.out hw190_2), (cell_b HB.out hw191_0), (cell_b HB.out hw191_1), (cell_b HB.out hw191_2), (cell_b HB.out hw192_0), (cell_b HB.out hw192_1), (cell_b HB.out hw192_2), (cell_b HB.out hw192_3), (cell_b HB.out hw192_4)⟩ (fun hHeld => ?_); refine with_tabW view_File_Word.tab4 view_File_Word.bits4 (fun HT_ HW_ => ?_)
       generalize w34.drew = w35 at HO184 BK185 HB HR190_0 HR190_1 HR190_2 HR191_0 HR191_1 HR191_2 hx190_0 hx190_1 hx190_2 hx191_0 hx191_1 hx191_2 hx192_0 hx192_1 hx192_2 hx192_3 hx192_4 hHeld ⊢
       refine pure_ (i := 0) (N := some 24) (v := ?_) (a' := ?_) (bl_ 14 1) rfl rfl (any_of HT_.out (by kernel_rfl)) (fun _ _ _ h => h) (Or.inl ⟨by rfl, ?_⟩) ?_ ?_; rotate_left; { intro w'; go_simp; with_reducible rfl }; rotate_left; { simp only [Act.put, List.setIfInBounds_toArray, List.set_cons_zero, List.set_cons_succ, i64_w, i32_w]; rfl }
       refine pure_ (i := 1) (N := some 25) (v := ?_) (a' := ?_) (bl_ 14 3) rfl rfl (any_of HT_.out (by kernel_rfl)) (fun _ _ _ h => h) (Or.inl ⟨by rfl, ?_⟩) ?_ ?_; rotate_left; { intro w'; go_simp; with_reducible rfl }; rotate_left; { simp only [Act.put, List.setIfInBounds_toArray, List.set_cons_zero, List.set_cons_succ, i64_w, i32_w]; rfl }
       refine pure_ (i := 2) (N := some 26) (v := ?_) (a' := ?_) (bl_ 14 7) rfl rfl (any_of HT_.out (by kernel_rfl)) (fun _ _ _ h => h) (Or.inl ⟨by rfl, ?_⟩) ?_ ?_; rotate_left; { intro w'; go_simp; with_reducible rfl }; rotate_left; { simp only [Act.put, List.setIfInBounds_toArray, List.set_cons_zero, List.set_cons_succ, i64_w, i32_w]; rfl }
       refine pure_ (i := 4) (N := some 28) (v := ?_) (a' := ?_) (bl_ 14 23) rfl rfl (any_of HT_.out (by kernel_rfl)) (fun _ _ _ h => h) (Or.inl ⟨by rfl, ?_⟩) ?_ ?_; rotate_left; { intro w'; go_simp; with_reducible rfl }; rotate_left; { simp only [Act.put, List.setIfInBounds_toArray, List.set_cons_zero, List.set_cons_succ, i64_w, i32_w]; rfl }
       refine pure_ (i := 5) (N := some 29) (v := ?_) (a' := ?_) (bl_ 14 55) rfl rfl (any_of HT_.out (by kernel_rfl)) (fun _ _ _ h => h) (Or.inl ⟨by rfl, ?_⟩) ?_ ?_; rotate_left; { intro w'; go_simp; with_reducible rfl }; rotate_left; { simp only [Act.put, List.setIfInBounds_toArray, List.set_cons_zero, List.set_cons_succ, i64_w, i32_w]; rfl }
       refine pure_ (i := 6) (N := some 30) (v := ?_) (a' := ?_) (bl_ 14 119) rfl rfl (any_of HT_.out (by kernel_rfl)) (fun _ _ _ h => h) (Or.inl ⟨by rfl, ?_⟩) ?_ ?_; rotate_left; { intro w'; go_simp; with_reducible rfl }; rotate_left; { simp only [Act.put, List.setIfInBounds_toArray, List.set_cons_zero, List.set_cons_succ, i64_w, i32_w]; rfl }
       refine pure_ (i := 8) (N := some 32) (v := ?_) (a' := ?_) (bl_ 14 375) rfl rfl (any_of HT_.out (by kernel_rfl)) (fun _ _ _ h => h) (Or.inl ⟨by rfl, ?_⟩) ?_ ?_; rotate_left; { intro w'; go_simp; with_reducible rfl }; rotate_left; { simp only [Act.put, List.setIfInBounds_toArray, List.set_cons_zero, List.set_cons_succ, i64_w, i32_w]; rfl }
       refine take_ (i := 3) (N := some 27) (v := ?_) (a' := ?_) (bl_ 14 383) rfl rfl (take_ofW HT_.out HW_.out (by kernel_rfl)) (fun _ _ _ h => h) (Or.inl ⟨by rfl, ?_⟩) hHeld ?_ ?_; rotate_left; { rintro w' ⟨s0, s1, s2, s3, s4, s5, s6, s7, s8, s9, s10, s11, s12, s13, s14⟩; go_simp; with_reducible rfl }; rotate_left; { simp only [Act.put, List.setIfInBounds_toArray, List.set_cons_zero, List.set_cons_succ, i64_w, i32_w]; rfl }
       refine take_ (i := 7) (N := some 31) (v := ?_) (a' := ?_) (bl_ 14 511) rfl rfl (take_ofW HT_.out HW_.out (by kernel_rfl)) (fun _ _ _ h => h) (Or.inl ⟨by rfl, ?_⟩) hHeld ?_ ?_; rotate_left; { rintro w' ⟨s0, s1, s2, s3, s4, s5, s6, s7, s8, s9, s10, s11, s12, s13, s14⟩; go_simp; with_reducible rfl }; rotate_left; { simp only [Act.put, List.setIfInBounds_toArray, List.set_cons_zero, List.set_cons_succ, i64_w, i32_w]; rfl }
       refine take_ (i := 9) (N := some 33) (v := ?_) (a' := ?_) (bl_ 14 1023) rfl rfl (take_ofW HT_.out HW_.out (by kernel_rfl)) (fun _ _ _ h => h) (Or.inl ⟨by rfl, ?_⟩) hHeld ?_ ?_; rotate_left; { rintro w' ⟨s0, s1, s2, s3, s4, s5, s6, s7, s8, s9, s10, s11, s12, s13, s14⟩; go_simp; with_reducible rfl }; rotate_left; { simp only [Act.put, List.setIfInBounds_toArray, List.set_cons_zero, List.set_cons_succ, i64_w, i32_w]; rfl }
       refine pure_ (i := 10) (N := some 34) (v := ?_) (a' := ?_) (bl_ 14 2047) rfl rfl (any_of HT_.out (by kernel_rfl)) (fun _ _ _ h => h) (Or.inl ⟨by rfl, ?_⟩) ?_ ?_; rotate_left; { intro w'; go_simp; with_reducible rfl }; rotate_left; { simp only [Act.put, List.setIfInBounds_toArray, List.set_cons_zero, List.set_cons_succ, i64_w, i32_w]; rfl }
       refine take_ (i := 11) (N := some 35) (v := ?_) (a' := ?_) (bl_ 14 4095) rfl rfl (take_ofW HT_.out HW_.out (by kernel_rfl)) (fun _ _ _ h => h) (Or.inl ⟨by rfl, ?_⟩) hHeld ?_ ?_; rotate_left; { rintro w' ⟨s0, s1, s2, s3, s4, s5, s6, s7, s8, s9, s10, s11, s12, s13, s14⟩; go_simp; with_reducible rfl }; rotate_left; { simp only [Act.put, List.setIfInBounds_toArray, List.set_cons_zero, List.set_cons_succ, i64_w, i32_w]; rfl }
       refine one_ (i := 12) (N := some 36) (bl_ 14 8191) rfl rfl (one_of HT_.out (by kernel_rfl)) (by decide) (fun K hK => ?_)
       refine goes_ Tryd.func68 (by kernel_rfl) rfl #[.slice A190_0 ((rd_T100 l0 0).f0).length c190_0, .agg #[.int .i64 ((rd_T103 ((rd_T100 l0 0).f1) t180).f0), .int .i64 ((rd_T103 ((rd_T100 l0 0).f1) t180).f1), .int .i64 ((rd_T103 ((rd_T100 l0 0).f1) t180).f2), .bool ((rd_T103 ((rd_T100 l0 0).f1) t180).f3), .int .i64 ((rd_T103 ((rd_T100 l0 0).f1) t180).f4)]] (by rfl) rfl rfl (by (try simp only [List.map_toArray, List.map_cons, List.map_nil]); first | done | rfl | (simp only [List.length_drop, List.length_take]; rfl)) ?_
       with_reducible refine (scan_Text.calls _ _ ((rd_T100 l0 0).f0) ((rd_T103 ((rd_T100 l0 0).f1) t180).f0) ((rd_T103 ((rd_T100 l0 0).f1) t180).f1) ((rd_T103 ((rd_T100 l0 0).f1) t180).f2) ((rd_T103 ((rd_T100 l0 0).f1) t180).f3) ((rd_T103 ((rd_T100 l0 0).f1) t180).f4) t193 _ ?side1 ?side2 A29.out).mono ?_
       (case side1 => repeat (first | exact (Kd.C_below HR190_0.out HB.out) | (with_reducible refine Kd.C_alloc ?_ _) | (with_reducible refine Kd.C_drewN ?_ _) | (with_reducible refine Kd.C_drew ?_)))
       (case side2 => exact HC190_0.out)
       rintro e w36 ⟨rfl, hb⟩
       refine ⟨_, rfl, ?_⟩
       have n0_ := Aside0.mk (Kd.V_below (go_V HO184.out) hb)
       have n1_ := Aside0.mk (blk_below (g := gb185) (o := .cells #[.int .i64 t179, .int .i64 t180, .int .i64 t181, .slice Ao33 t182.length co33] 33 (0, 0)) (go_k BK185.out) hb)
       have n2_ := Aside0.mk (below_step (go_b1 HB.out GE185.out) hb)
       clear HO184
       clear BK185
       clear HB
       have HO184 := n0_
       have BK185 := n1_
       have HB := n2_
       clear n0_ n1_ n2_
       (try clear hb)
       (try clear hb2)
       (try clear hk)
       (try clear hi)
       refine hK.out _ _ ⟨(blk_cell BK185.out 0).trans rfl, (blk_cell BK185.out 1).trans rfl, (blk_cell BK185.out 2).trans rfl, (blk_cell BK185.out 3).trans rfl, (cell_b HB.out hw190_0), (cell_b HB.out hw190_1), (cell_b HB.out hw190_2), (cell_b HB.out hw191_0), (cell_b HB.out hw191_1), (cell_b HB.out hw191_2), (cell_b HB.out hw192_0), (cell_b HB.out hw192_1), (cell_b HB.out hw192_2), (cell_b HB.out hw192_3), (cell_b HB.out hw192_4)⟩ (fun hHeld => ?_)
       clear hK K
       refine norm_ (a' := ?_) ?_ ?_; rotate_left; { show Act.put _ (some 36) _ = _; simp only [Act.put, List.setIfInBounds_toArray, List.set_cons_zero, List.set_cons_succ, i64_w, i32_w]; rfl }
       refine pure_ (i := 13) (N := some 4) (v := ?_) (a' := ?_) (bl_ 14 16383) rfl rfl (any_of HT_.out (by kernel_rfl)) (fun _ _ _ h => h) (Or.inl ⟨by rfl, ?_⟩) ?_ ?_; rotate_left; { intro w'; go_simp; with_reducible rfl }; rotate_left; { simp only [Act.put, List.setIfInBounds_toArray, List.set_cons_zero, List.set_cons_succ, i64_w, i32_w]; rfl }
       refine done_ (done_of HT_.out (by kernel_rfl)) ?_
       try go_wp2
       go_ret
       exact ⟨by first | rfl | (simp [*, errW_none, errW_some, erT_no, erV_no, erT_at, erV_at] <;> rfl), by repeat (first | (with_reducible first | exact HB.out | apply below_alloc | apply pw_below_drewN | apply below_drew1 | refine below_set ?_ GE185.out) | exact HB.out)⟩
      ·rw [if_neg c28] at H
       exact absurd H (by simp)
     ·rw [if_neg c27] at H
      exact absurd H (by simp)
   ·rw [if_neg c21] at H
    have c21b0 : (t179 == 3) = false := beq_eq_false_iff_ne.mpr c21
    have c21b1 : (t179 != 3) = true := bne_iff_ne.mpr c21
    obtain rfl := Option.some.inj H
    have p178 : 0 ≤ (0 : Int) := (by omega)
    have q178 : 0 < (l0.length : Int) := of_dec
    obtain ⟨ad178, A178_0, c178_0, A178_1, c178_1, A178_2, c178_2, e178, hx178_0, hx178_1, hx178_2, hl178_0, hi178_0, hl178_1, hi178_1, hl178_2, hi178_2⟩ := at_T100 HR0.out 0 p178 q178
    cases e178
    have qi178 : (0 < l0.length) = True := eq_true (by omega)
    (try rw [show ((0 : Int)).toNat = 0 from rfl] at hx178_0)
    (try rw [show 0 * 3 = 0 from rfl] at hx178_0)
    (try rw [Addr.add_zero'] at hx178_0)
    (try rw [show ((0 : Int)).toNat = 0 from rfl] at hx178_1)
    (try rw [show 0 * 3 = 0 from rfl] at hx178_1)
    (try rw [Addr.add_zero'] at hx178_1)
    (try rw [show ((0 : Int)).toNat = 0 from rfl] at hx178_2)
    (try rw [show 0 * 3 = 0 from rfl] at hx178_2)
    (try rw [Addr.add_zero'] at hx178_2)
    have HR178_0 := Aside0.mk hi178_0
    have HC178_0 := Aside0.mk hl178_0
    clear hi178_0 hl178_0
    have HR178_1 := Aside0.mk hi178_1
    have HC178_1 := Aside0.mk hl178_1
    clear hi178_1 hl178_1
    have HR178_2 := Aside0.mk hi178_2
    have HC178_2 := Aside0.mk hl178_2
    clear hi178_2 hl178_2
    replace p178 := eq_true p178
    replace q178 := eq_true q178
    go_enter Tryd.func42, Tryd.ntmps42
    go_wp2_with (first | ((with_reducible refine gate_callee (f := 40) rfl ?_); refine goesL_ (some 8) rfl rfl Tryd.func40 (by kernel_rfl) rfl #[.pointer (some ad178), .int .i64 a1] rfl (by (try simp only [List.map_toArray, List.map_cons, List.map_nil]); first | done | rfl | (simp only [List.length_drop, List.length_take]; rfl)) ?_; (with_reducible refine (view_File_Node.calls (fun k_ => k_ < w.heap.size) _ c0 l0 a1 t179 t180 t181 t182 _ ?side1 A4.out).mono ?_); (case side1 => exact Kd.V_mk HC0.out (Kd.F_below (Kd.C_F k100_heap HR0.out) (go_b HB.out))); rintro e w37 ⟨v183, rfl, ho0, hb⟩; refine ⟨_, rfl, ?_⟩; have n0_ := Aside0.mk (Kd.V_lower (Kd.V_mono (ok' := fun k_ => True) ho0 (fun k_ hk_ => trivial)) (below_size (go_b HB.out))); have n1_ := Aside0.mk (below_step (go_b HB.out) hb); clear HB; have HO184 := n0_; have HB := n1_; clear n0_ n1_; (try clear hb); (try clear hb2); (try clear hk); (try clear hi); (try clear ho0)) | ((with_reducible refine gate_dst (N := 5) rfl ?_); refine box_event ?hg (N := 5) ?hd (cs := #[.int .i64 0, .int .i64 0, .int .i64 0, .slice none 0 0]) (t := 33) ?hr ?_; (case hd => rfl); (case hg => rfl); (case hr => first | (go_simp; done) | (go_simp; rfl)); intro gb185 hg w38 hbox hb; have n0_ := Aside0.mk (Kd.V_below (Kd.V_elderB (go_V HO184.out) gb185 (Nat.le_of_eq hg.symm)) hb); have n1_ := Aside0.mk (below_step (go_b HB.out) hb); have n2_ := Aside0.mk (hbox); have n3_ := Aside0.mk ((by rw [hg]; exact (below_size (go_b HB.out)) : w.heap.size ≤ gb185)); have n4_ := n3_; clear HO184; clear HB; have HO184 := n0_; have HB := n1_; have BK185 := n2_; have GW185 := n3_; have GE185 := n4_; clear n0_ n1_ n2_ n3_ n4_; clear hb hbox hg; have hcz39_0 : w38.cell? ⟨gb185, 0, none⟩ = some (.int .i64 0) := (blk_cell BK185.out 0).trans rfl; have hcz39_1 : w38.cell? ⟨gb185, 1, none⟩ = some (.int .i64 0) := (blk_cell BK185.out 1).trans rfl; have hcz39_2 : w38.cell? ⟨gb185, 2, none⟩ = some (.int .i64 0) := (blk_cell BK185.out 2).trans rfl; have hcz39_3 : w38.cell? ⟨gb185, 3, none⟩ = some (.slice none 0 0) := (blk_cell BK185.out 3).trans rfl; have hfz39_0 := blk_frozen BK185.out 0; have hfz39_1 := blk_frozen BK185.out 1; have hfz39_2 := blk_frozen BK185.out 2; have hfz39_3 := blk_frozen BK185.out 3; obtain ⟨Ao40, co40, eo40⟩ := Kd.V_slice HO184.out; subst eo40))
    go_ret
    exact ⟨by first | rfl | (simp [*, errW_none, errW_some, erT_no, erV_no, erT_at, erV_at] <;> rfl), by repeat (first | (with_reducible first | exact HB.out | apply below_alloc | apply pw_below_drewN | apply below_drew1 | refine below_set ?_ GE185.out) | exact HB.out)⟩
 ·rw [if_neg c3] at H
  exact absurd H (by simp)

/-! ### view_File_Word_nil: function 42 -/
def view_File_Word_nil.f (a0 : Unit) (a1 : Int) : Option (ByteArray) := (view_File_Node_nil.f a0 a1).bind fun bt194 => (if bt194.1 = 2 then (if bt194.2.1 ≥ bt194.2.2.1 then (some (⟨#[]⟩ : ByteArray)) else (none)) else (if bt194.1 = 3 then (if bt194.2.1 ≥ bt194.2.2.1 then (some (⟨#[]⟩ : ByteArray)) else (none)) else (some (⟨#[]⟩ : ByteArray))))
set_option maxHeartbeats 8000000 in
set_option maxRecDepth 100000 in
theorem view_File_Word_nil.calls (a0 : Unit) (a1 : Int) (r : ByteArray) (w : World) (h : view_File_Word_nil.f a0 a1 = some r) :
  Calls Tryd.prog 42 #[.pointer none, .int .i64 a1] w fun e w' => e = .returned (.string r) ∧ Below w.heap.size w w' := by
 have hu33 := Tryd.underlying33
 have hu103 := Tryd.underlying103
 have HB := Aside0.mk (Below.refl w.heap.size w)
 have H : ((view_File_Node_nil.f a0 a1).bind fun bt194 => (if bt194.1 = 2 then (if bt194.2.1 ≥ bt194.2.2.1 then (some (⟨#[]⟩ : ByteArray)) else (none)) else (if bt194.1 = 3 then (if bt194.2.1 ≥ bt194.2.2.1 then (some (⟨#[]⟩ : ByteArray)) else (none)) else (some (⟨#[]⟩ : ByteArray))))) = some r := h
 clear h
 replace H := Option.bind_eq_some_iff.mp H
 obtain ⟨⟨t194, t195, t196, t197⟩, A30, H⟩ := H
 replace H : (if t194 = 2 then (if t195 ≥ t196 then (some (⟨#[]⟩ : ByteArray)) else (none)) else (if t194 = 3 then (if t195 ≥ t196 then (some (⟨#[]⟩ : ByteArray)) else (none)) else (some (⟨#[]⟩ : ByteArray)))) = some r := H
 have A3 := Aside0.mk A30
 clear A30
 by_cases c4 : t194 = 2
 ·rw [if_pos c4] at H
  have c4b0 : (t194 == 2) = true := beq_iff_eq.mpr c4
  have c4b1 : (t194 != 2) = false := bne_eq_false_iff_eq.mpr c4
  clear c4
  by_cases c5 : t195 ≥ t196
  ·rw [if_pos c5] at H
   have c5b0 : decide (t196 ≤ t195) = true := decide_eq_true c5
   clear c5
   obtain rfl := Option.some.inj H
   go_enter Tryd.func42, Tryd.ntmps42
   go_wp2_with (first | ((with_reducible refine gate_callee (f := 40) rfl ?_); refine goesL_ (some 8) rfl rfl Tryd.func40 (by kernel_rfl) rfl #[.pointer none, .int .i64 a1] rfl (by (try simp only [List.map_toArray, List.map_cons, List.map_nil]); first | done | rfl | (simp only [List.length_drop, List.length_take]; rfl)) ?_; (with_reducible refine (view_File_Node_nil.calls a0 a1 t194 t195 t196 t197 _ A3.out).mono ?_); rintro e w6 ⟨v198, rfl, ho0, hb⟩; refine ⟨_, rfl, ?_⟩; have n0_ := Aside0.mk (Kd.R_lower ho0 (below_size (go_b HB.out))); have n1_ := Aside0.mk (below_step (go_b HB.out) hb); clear HB; have HO199 := n0_; have HB := n1_; clear n0_ n1_; (try clear hb); (try clear hb2); (try clear hk); (try clear hi); (try clear ho0)) | ((with_reducible refine gate_dst (N := 5) rfl ?_); refine box_event ?hg (N := 5) ?hd (cs := #[.int .i64 0, .int .i64 0, .int .i64 0, .slice none 0 0]) (t := 33) ?hr ?_; (case hd => rfl); (case hg => rfl); (case hr => first | (go_simp; done) | (go_simp; rfl)); intro gb200 hg w7 hbox hb; have n0_ := Aside0.mk (Kd.R_below (go_R HO199.out) hb); have n1_ := Aside0.mk (below_step (go_b HB.out) hb); have n2_ := Aside0.mk (hbox); have n3_ := Aside0.mk ((by rw [hg]; exact (below_size (go_b HB.out)) : w.heap.size ≤ gb200)); have n4_ := n3_; clear HO199; clear HB; have HO199 := n0_; have HB := n1_; have BK200 := n2_; have GW200 := n3_; have GE200 := n4_; clear n0_ n1_ n2_ n3_ n4_; clear hb hbox hg; have hcz8_0 : w7.cell? ⟨gb200, 0, none⟩ = some (.int .i64 0) := (blk_cell BK200.out 0).trans rfl; have hcz8_1 : w7.cell? ⟨gb200, 1, none⟩ = some (.int .i64 0) := (blk_cell BK200.out 1).trans rfl; have hcz8_2 : w7.cell? ⟨gb200, 2, none⟩ = some (.int .i64 0) := (blk_cell BK200.out 2).trans rfl; have hcz8_3 : w7.cell? ⟨gb200, 3, none⟩ = some (.slice none 0 0) := (blk_cell BK200.out 3).trans rfl; have hfz8_0 := blk_frozen BK200.out 0; have hfz8_1 := blk_frozen BK200.out 1; have hfz8_2 := blk_frozen BK200.out 2; have hfz8_3 := blk_frozen BK200.out 3; obtain ⟨Ao9, co9, eo9⟩ := Kd.R_slice HO199.out; subst eo9))
   go_ret
   exact ⟨by first | rfl | (simp [*, errW_none, errW_some, erT_no, erV_no, erT_at, erV_at] <;> rfl), by repeat (first | (with_reducible first | exact HB.out | apply below_alloc | apply pw_below_drewN | apply below_drew1 | refine below_set ?_ GE200.out) | exact HB.out)⟩
  ·rw [if_neg c5] at H
   have c5b0 : decide (t196 ≤ t195) = false := decide_eq_false c5
   clear c5
   exact absurd H (by simp)
 ·rw [if_neg c4] at H
  have c4b0 : (t194 == 2) = false := beq_eq_false_iff_ne.mpr c4
  have c4b1 : (t194 != 2) = true := bne_iff_ne.mpr c4
  by_cases c10 : t194 = 3
  ·rw [if_pos c10] at H
   have c10b0 : (t194 == 3) = true := beq_iff_eq.mpr c10
   have c10b1 : (t194 != 3) = false := bne_eq_false_iff_eq.mpr c10
   clear c10
   by_cases c11 : t195 ≥ t196
   ·rw [if_pos c11] at H
    have c11b0 : decide (t196 ≤ t195) = true := decide_eq_true c11
    clear c11
    obtain rfl := Option.some.inj H
    go_enter Tryd.func42, Tryd.ntmps42
    go_wp2_with (first | ((with_reducible refine gate_callee (f := 40) rfl ?_); refine goesL_ (some 8) rfl rfl Tryd.func40 (by kernel_rfl) rfl #[.pointer none, .int .i64 a1] rfl (by (try simp only [List.map_toArray, List.map_cons, List.map_nil]); first | done | rfl | (simp only [List.length_drop, List.length_take]; rfl)) ?_; (with_reducible refine (view_File_Node_nil.calls a0 a1 t194 t195 t196 t197 _ A3.out).mono ?_); rintro e w12 ⟨v198, rfl, ho0, hb⟩; refine ⟨_, rfl, ?_⟩; have n0_ := Aside0.mk (Kd.R_lower ho0 (below_size (go_b HB.out))); have n1_ := Aside0.mk (below_step (go_b HB.out) hb); clear HB; have HO199 := n0_; have HB := n1_; clear n0_ n1_; (try clear hb); (try clear hb2); (try clear hk); (try clear hi); (try clear ho0)) | ((with_reducible refine gate_dst (N := 5) rfl ?_); refine box_event ?hg (N := 5) ?hd (cs := #[.int .i64 0, .int .i64 0, .int .i64 0, .slice none 0 0]) (t := 33) ?hr ?_; (case hd => rfl); (case hg => rfl); (case hr => first | (go_simp; done) | (go_simp; rfl)); intro gb200 hg w13 hbox hb; have n0_ := Aside0.mk (Kd.R_below (go_R HO199.out) hb); have n1_ := Aside0.mk (below_step (go_b HB.out) hb); have n2_ := Aside0.mk (hbox); have n3_ := Aside0.mk ((by rw [hg]; exact (below_size (go_b HB.out)) : w.heap.size ≤ gb200)); have n4_ := n3_; clear HO199; clear HB; have HO199 := n0_; have HB := n1_; have BK200 := n2_; have GW200 := n3_; have GE200 := n4_; clear n0_ n1_ n2_ n3_ n4_; clear hb hbox hg; have hcz14_0 : w13.cell? ⟨gb200, 0, none⟩ = some (.int .i64 0) := (blk_cell BK200.out 0).trans rfl; have hcz14_1 : w13.cell? ⟨gb200, 1, none⟩ = some (.int .i64 0) := (blk_cell BK200.out 1).trans rfl; have hcz14_2 : w13.cell? ⟨gb200, 2, none⟩ = some (.int .i64 0) := (blk_cell BK200.out 2).trans rfl; have hcz14_3 : w13.cell? ⟨gb200, 3, none⟩ = some (.slice none 0 0) := (blk_cell BK200.out 3).trans rfl; have hfz14_0 := blk_frozen BK200.out 0; have hfz14_1 := blk_frozen BK200.out 1; have hfz14_2 := blk_frozen BK200.out 2; have hfz14_3 := blk_frozen BK200.out 3; obtain ⟨Ao15, co15, eo15⟩ := Kd.R_slice HO199.out; subst eo15))
    go_ret
    exact ⟨by first | rfl | (simp [*, errW_none, errW_some, erT_no, erV_no, erT_at, erV_at] <;> rfl), by repeat (first | (with_reducible first | exact HB.out | apply below_alloc | apply pw_below_drewN | apply below_drew1 | refine below_set ?_ GE200.out) | exact HB.out)⟩
   ·rw [if_neg c11] at H
    have c11b0 : decide (t196 ≤ t195) = false := decide_eq_false c11
    clear c11
    exact absurd H (by simp)
  ·rw [if_neg c10] at H
   have c10b0 : (t194 == 3) = false := beq_eq_false_iff_ne.mpr c10
   have c10b1 : (t194 != 3) = true := bne_iff_ne.mpr c10
   obtain rfl := Option.some.inj H
   go_enter Tryd.func42, Tryd.ntmps42
   go_wp2_with (first | ((with_reducible refine gate_callee (f := 40) rfl ?_); refine goesL_ (some 8) rfl rfl Tryd.func40 (by kernel_rfl) rfl #[.pointer none, .int .i64 a1] rfl (by (try simp only [List.map_toArray, List.map_cons, List.map_nil]); first | done | rfl | (simp only [List.length_drop, List.length_take]; rfl)) ?_; (with_reducible refine (view_File_Node_nil.calls a0 a1 t194 t195 t196 t197 _ A3.out).mono ?_); rintro e w16 ⟨v198, rfl, ho0, hb⟩; refine ⟨_, rfl, ?_⟩; have n0_ := Aside0.mk (Kd.R_lower ho0 (below_size (go_b HB.out))); have n1_ := Aside0.mk (below_step (go_b HB.out) hb); clear HB; have HO199 := n0_; have HB := n1_; clear n0_ n1_; (try clear hb); (try clear hb2); (try clear hk); (try clear hi); (try clear ho0)) | ((with_reducible refine gate_dst (N := 5) rfl ?_); refine box_event ?hg (N := 5) ?hd (cs := #[.int .i64 0, .int .i64 0, .int .i64 0, .slice none 0 0]) (t := 33) ?hr ?_; (case hd => rfl); (case hg => rfl); (case hr => first | (go_simp; done) | (go_simp; rfl)); intro gb200 hg w17 hbox hb; have n0_ := Aside0.mk (Kd.R_below (go_R HO199.out) hb); have n1_ := Aside0.mk (below_step (go_b HB.out) hb); have n2_ := Aside0.mk (hbox); have n3_ := Aside0.mk ((by rw [hg]; exact (below_size (go_b HB.out)) : w.heap.size ≤ gb200)); have n4_ := n3_; clear HO199; clear HB; have HO199 := n0_; have HB := n1_; have BK200 := n2_; have GW200 := n3_; have GE200 := n4_; clear n0_ n1_ n2_ n3_ n4_; clear hb hbox hg; have hcz18_0 : w17.cell? ⟨gb200, 0, none⟩ = some (.int .i64 0) := (blk_cell BK200.out 0).trans rfl; have hcz18_1 : w17.cell? ⟨gb200, 1, none⟩ = some (.int .i64 0) := (blk_cell BK200.out 1).trans rfl; have hcz18_2 : w17.cell? ⟨gb200, 2, none⟩ = some (.int .i64 0) := (blk_cell BK200.out 2).trans rfl; have hcz18_3 : w17.cell? ⟨gb200, 3, none⟩ = some (.slice none 0 0) := (blk_cell BK200.out 3).trans rfl; have hfz18_0 := blk_frozen BK200.out 0; have hfz18_1 := blk_frozen BK200.out 1; have hfz18_2 := blk_frozen BK200.out 2; have hfz18_3 := blk_frozen BK200.out 3; obtain ⟨Ao19, co19, eo19⟩ := Kd.R_slice HO199.out; subst eo19))
   go_ret
   exact ⟨by first | rfl | (simp [*, errW_none, errW_some, erT_no, erV_no, erT_at, erV_at] <;> rfl), by repeat (first | (with_reducible first | exact HB.out | apply below_alloc | apply pw_below_drewN | apply below_drew1 | refine below_set ?_ GE200.out) | exact HB.out)⟩

end Go.Proofs.YtnpgadfoohjlnaaDoor.QV
