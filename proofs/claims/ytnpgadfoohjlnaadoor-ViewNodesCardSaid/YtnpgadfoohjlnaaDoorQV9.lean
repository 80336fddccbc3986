/- Where a Lean function of this text answers, the Go function of its name comes to that answer: no other condition. Written by a program of this session out of the translation; Lean checks it. -/
import Derived.Test.YtnpgadfoohjlnaaDoorQV0
import Derived.Test.YtnpgadfoohjlnaaDoorQV7
import Derived.Test.YtnpgadfoohjlnaaDoorQV8
namespace Go.Proofs.YtnpgadfoohjlnaaDoor.QV
open Go.RowKit Go.Proofs.YtnpgadfoohjlnaaDoorW.PrintWords Go.Proofs.YtnpgadfoohjlnaaDoorW.PrintLast Go.Proofs.YtnpgadfoohjlnaaDoorW.PrintMore Go.Proofs.YtnpgadfoohjlnaaDoorW.PrintX
attribute [local go_sem] max2_int min2_int max_two min_two max_three min_three max_four min_four   -- for this text's walks alone
set_option linter.unusedVariables false
set_option linter.unusedSimpArgs false

/-! ### view_File_Words: function 43 -/
def view_File_Words.l0 : Nat → List (S100) → List ByteArray → List Int → Int → Int → Option (List ByteArray)
 | 0, _, _, _, _, _ => none
 | k + 1, x0, x5, x11, x12, x13 => if x13 < x12 then (if 0 ≤ x13 then (if x13 < (x11.length : Int) then ((view_File_Word.f x0 (rd x11 x13)).bind fun t209 => (if x5.length < 8796093022208 then (view_File_Words.l0 k x0 (x5 ++ [t209]) x11 x12 (wrap64 (x13 + 1))) else (none))) else (none)) else (none)) else (some x5)
def view_File_Words.f (k : Nat) (l0 : List (S100)) (a1 : Int) : Option (List ByteArray) := if 0 < (l0.length : Int) then ((view_File_Node.f l0 a1).bind fun bt202 => (view_File_Words.l0 k l0 ([] : List ByteArray) bt202.2.2.2 (bt202.2.2.2.length : Int) 0)) else (none)
theorem view_File_Words.mono_l : ∀ k, (∀ y0 y1 y2 y3 y4, LeO (view_File_Words.l0 k y0 y1 y2 y3 y4) (view_File_Words.l0 (k + 1) y0 y1 y2 y3 y4))
 | 0 => fun _ _ _ _ _ r h => by simp [view_File_Words.l0] at h
 | k + 1 => by
  have ih0 := view_File_Words.mono_l k
  ·intro y0 y1 y2 y3 y4
   unfold view_File_Words.l0
   repeat' first
   | (with_reducible exact ih0 _ _ _ _ _)
   | (with_reducible exact LeO.refl _)
   | (with_reducible exact LeO.none _)
   | (with_reducible refine LeO.ite ?_ ?_)
   | (with_reducible refine LeO.bind ?_ (fun _ => ?_))
   | exact ih0 _ _ _ _ _
   | exact LeO.none _
   | refine LeO.ite ?_ ?_
   | refine LeO.bind ?_ (fun _ => ?_)
theorem view_File_Words.mono : ∀ a0 a1 k, LeO (view_File_Words.f k a0 a1) (view_File_Words.f (k + 1) a0 a1) := by
 intro a0 a1 k
 have ih0 := view_File_Words.mono_l k
 unfold view_File_Words.f
 repeat' first
   | (with_reducible exact ih0 _ _ _ _ _)
   | (with_reducible exact LeO.refl _)
   | (with_reducible exact LeO.none _)
   | (with_reducible refine LeO.ite ?_ ?_)
   | (with_reducible refine LeO.bind ?_ (fun _ => ?_))
   | exact ih0 _ _ _ _ _
   | exact LeO.none _
   | refine LeO.ite ?_ ?_
   | refine LeO.bind ?_ (fun _ => ?_)
set_option maxHeartbeats 8000000 in
set_option maxRecDepth 100000 in
theorem view_File_Words.calls (k : Nat) (A0 : Option Addr) (c0 : Nat) (l0 : List (S100)) (a1 : Int) (r : List ByteArray) (w : World) (hr0 : Kd.C k100 w A0 l0.length l0) (hc0 : l0.length ≤ c0) (h : view_File_Words.f k l0 a1 = some r) :
  Calls Tryd.prog 43 #[.pointer A0, .int .i64 a1] w fun e w' => ∃ v0_ : Value, e = .returned (v0_) ∧ Kd.R Kd.string 9 w' w.heap.size (fun _ => True) v0_ r ∧ Below w.heap.size w w' := by
 have hu33 := Tryd.underlying33
 have hfd33_3 : ∀ (c0_ c1_ c2_ c3_ : Value) (W_ : World), (Instr.field 33 (.agg #[c0_, c1_, c2_, c3_]) 3).run Tryd.prog W_ = .ok (c3_) W_ := fun _ _ _ _ _ => by kernel_rfl
 have HR0 := Aside0.mk hr0
 have HC0 := Aside0.mk hc0
 clear hr0 hc0
 have HB := Aside0.mk (Below.refl w.heap.size w)
 have H : (if 0 < (l0.length : Int) then ((view_File_Node.f l0 a1).bind fun bt202 => (view_File_Words.l0 k l0 ([] : List ByteArray) bt202.2.2.2 (bt202.2.2.2.length : Int) 0)) else (none)) = some r := h
 clear h
 by_cases c3 : 0 < (l0.length : Int)
 ·rw [if_pos c3] at H
  have c3b0 : decide (0 < (l0.length : Int)) = true := decide_eq_true c3
  have c3b1 : decide (0 < l0.length) = true := decide_eq_true (by omega)
  clear c3
  replace H := Option.bind_eq_some_iff.mp H
  obtain ⟨⟨t202, t203, t204, t205⟩, A40, H⟩ := H
  replace H : (view_File_Words.l0 k l0 ([] : List ByteArray) t205 (t205.length : Int) 0) = some r := H
  have A4 := Aside0.mk A40
  clear A40
  have H' := Aside0.mk H
  clear H
  have p201 : 0 ≤ (0 : Int) := (by omega)
  have q201 : 0 < (l0.length : Int) := of_dec
  obtain ⟨ad201, A201_0, c201_0, A201_1, c201_1, A201_2, c201_2, e201, hx201_0, hx201_1, hx201_2, hl201_0, hi201_0, hl201_1, hi201_1, hl201_2, hi201_2⟩ := at_T100 HR0.out 0 p201 q201
  cases e201
  have qi201 : (0 < l0.length) = True := eq_true (by omega)
  (try rw [show ((0 : Int)).toNat = 0 from rfl] at hx201_0)
  (try rw [show 0 * 3 = 0 from rfl] at hx201_0)
  (try rw [Addr.add_zero'] at hx201_0)
  (try rw [show ((0 : Int)).toNat = 0 from rfl] at hx201_1)
  (try rw [show 0 * 3 = 0 from rfl] at hx201_1)
  (try rw [Addr.add_zero'] at hx201_1)
  (try rw [show ((0 : Int)).toNat = 0 from rfl] at hx201_2)
  (try rw [show 0 * 3 = 0 from rfl] at hx201_2)
  (try rw [Addr.add_zero'] at hx201_2)
  have HR201_0 := Aside0.mk hi201_0
  have HC201_0 := Aside0.mk hl201_0
  clear hi201_0 hl201_0
  have HR201_1 := Aside0.mk hi201_1
  have HC201_1 := Aside0.mk hl201_1
  clear hi201_1 hl201_1
  have HR201_2 := Aside0.mk hi201_2
  have HC201_2 := Aside0.mk hl201_2
  clear hi201_2 hl201_2
  replace p201 := eq_true p201
  replace q201 := eq_true q201
  go_enter Tryd.func43, Tryd.ntmps43
  go_wp2_with (first | ((with_reducible refine gate_callee (f := 40) rfl ?_); refine goesL_ (some 10) rfl rfl Tryd.func40 (by kernel_rfl) rfl #[.pointer (some ad201), .int .i64 a1] rfl (by (try simp only [List.map_toArray, List.map_cons, List.map_nil]); first | done | rfl | (simp only [List.length_drop, List.length_take]; rfl)) ?_; (with_reducible refine (view_File_Node.calls (fun k_ => k_ < w.heap.size) _ c0 l0 a1 t202 t203 t204 t205 _ ?side1 A4.out).mono ?_); (case side1 => exact Kd.V_mk HC0.out (Kd.F_below (Kd.C_F k100_heap HR0.out) (go_b HB.out))); rintro e w5 ⟨v206, rfl, ho0, hb⟩; refine ⟨_, rfl, ?_⟩; have n0_ := Aside0.mk (Kd.V_lower (Kd.V_mono (ok' := fun k_ => True) ho0 (fun k_ hk_ => trivial)) (below_size (go_b HB.out))); have n1_ := Aside0.mk (below_step (go_b HB.out) hb); clear HB; have HO207 := n0_; have HB := n1_; clear n0_ n1_; (try clear hb); (try clear hb2); (try clear hk); (try clear hi); (try clear ho0); obtain ⟨Ao6, co6, eo6⟩ := Kd.V_slice HO207.out; subst eo6))
  go_loopg [5, 13] k (fun kq v5 v13 w' => ∃ (x5_1 : List ByteArray) (x13_1 : Int), v13 = .int .i64 x13_1 ∧ Aside0 (view_File_Words.l0 kq l0 x5_1 t205 (t205.length : Int) x13_1 = some r) ∧ Aside0 (kq ≤ k) ∧ Aside0 (Kd.R Kd.string 9 w' w.heap.size (fun _ => True) v5 x5_1) ∧ Aside0 (Kd.V (Kd.int .i64) 3 w' w.heap.size (fun k_ => some k_ ≠ (v5 : Value).ownBlock) (.slice Ao6 t205.length co6) t205) ∧ Aside0 (Below w.heap.size w w'))
  case atStart => exact ⟨(([] : List ByteArray)), (0), (by first | rfl | (simp; done) | (simp [*]; done)), H', ⟨Nat.le_refl _⟩, ⟨by first | exact Kd.R_nil _ _ _ _ _ | exact Kd.N_nil _ _ _ _ _ | exact Kd.V_nil _ _ _ _ _ | exact Kd.Q_nil _ _ _ _ _ | exact Kd.S_nil _ _ _ _ _⟩, ⟨by (with_reducible repeat (first | apply Kd.V_alloc | apply Kd.V_drewN | apply Kd.V_drew)); exact Kd.V_mono HO207.out (fun _ hk => (by simp [Value.ownBlock]))⟩, ⟨by repeat (first | (with_reducible first | exact HB.out | apply below_alloc | apply pw_below_drewN | apply below_drew1) | exact HB.out)⟩⟩
  case round =>
   clear H'
   try clear c2
   try clear p2
   try clear q2
   try clear hx2
   try clear qi2
   try clear c3
   try clear c3b0
   try clear c3b1
   try clear c4
   try clear hx201_0
   try clear hx201_1
   try clear hx201_2
   try clear p201
   try clear q201
   obtain ⟨x5_1, x13_1, rfl, HA, HK1, HO_5, HO_11, HB⟩ := hrel
   cases gk with
   | zero => exact absurd HA.out (by simp [view_File_Words.l0])
   | succ k1 =>
    have H := HA.out
    clear HA
    simp only [view_File_Words.l0] at H
    by_cases c7 : x13_1 < (t205.length : Int)
    ·rw [if_pos c7] at H
     have c7b0 : decide (x13_1 < (t205.length : Int)) = true := decide_eq_true c7
     clear c7
     by_cases c8 : 0 ≤ x13_1
     ·rw [if_pos c8] at H
      have c8b0 : decide (0 ≤ x13_1) = true := decide_eq_true c8
      clear c8
      by_cases c9 : x13_1 < (t205.length : Int)
      ·rw [if_pos c9] at H
       have c9b0 : decide (x13_1 < (t205.length : Int)) = true := decide_eq_true c9
       clear c9
       replace H := Option.bind_eq_some_iff.mp H
       obtain ⟨t209, A100, H⟩ := H
       replace H : (if x5_1.length < 8796093022208 then (view_File_Words.l0 k1 l0 (x5_1 ++ [t209]) t205 (t205.length : Int) (wrap64 (x13_1 + 1))) else (none)) = some r := H
       have A10 := Aside0.mk A100
       clear A100
       by_cases c11 : x5_1.length < 8796093022208
       ·rw [if_pos c11] at H
        have LMc11 := Aside0.mk c11
        clear c11
        obtain ⟨y210, hy210⟩ : ∃ y_ : List ByteArray, y_ = (x5_1 ++ [t209]) := ⟨_, rfl⟩
        replace H : (view_File_Words.l0 k1 l0 y210 t205 (t205.length : Int) (wrap64 (x13_1 + 1))) = some r := by first | (rw [hy210]; with_reducible exact H) | (have H2_ := (Option.bind_some _ _).symm.trans H; rw [hy210]; with_reducible exact H2_) | (have H2_ := (Option.bind_some _ _).symm.trans H; with_reducible exact H2_) | with_reducible exact H | (rw [hy210]; exact H) | exact H
        have Ny210 := Aside0.mk hy210
        clear hy210
        have H' := Aside0.mk H
        clear H
        have p208 : 0 ≤ (x13_1 : Int) := of_dec
        have q208 : x13_1 < (t205.length : Int) := of_dec
        obtain ⟨ad208, e208, hx208_0⟩ := Kd.at_int (Kd.V_reads' HO_11.out).2.2 x13_1 p208 q208
        cases e208
        replace p208 := eq_true p208
        replace q208 := eq_true q208
        go_wp2_with (first | ((with_reducible refine gate_callee (f := 42) rfl ?_); refine goesL_ (some 20) rfl rfl Tryd.func42 (by kernel_rfl) rfl #[.pointer (some ad201), .int .i64 (rd t205 x13_1)] rfl (by (try simp only [List.map_toArray, List.map_cons, List.map_nil]); first | done | rfl | (simp only [List.length_drop, List.length_take]; rfl)) ?_; (with_reducible refine (view_File_Word.calls _ c0 l0 (rd t205 x13_1) t209 _ ?side1 ?side2 A10.out).mono ?_); (case side1 => repeat (first | exact (Kd.C_below HR0.out HB.out) | (with_reducible refine Kd.C_alloc ?_ _) | (with_reducible refine Kd.C_drewN ?_ _) | (with_reducible refine Kd.C_drew ?_))); (case side2 => exact HC0.out); rintro e w12 ⟨rfl, hb⟩; refine ⟨_, rfl, ?_⟩; have n0_ := Aside0.mk (Kd.R_below (go_R HO_5.out) hb); have n1_ := Aside0.mk (Kd.V_below (go_V HO_11.out) hb); have n2_ := Aside0.mk (below_step (go_b HB.out) hb); clear HO_5; clear HO_11; clear HB; have HO_5 := n0_; have HO_11 := n1_; have HB := n2_; clear n0_ n1_ n2_; (try clear hb); (try clear hb2); (try clear hk); (try clear hi)) | ((with_reducible refine gate_builtin (b := .append) (xs := #[.tmp 17, .tmp 21]) rfl ?_); at_builtin; refine Kd.R_append Kd.string (w0 := w) w.heap.size rfl (.tmp 17) (.tmp 21) 76 9 (.string ⟨#[]⟩) 16 rfl Tryd.underlying76 info9 rfl (by decide) (by omega) u5 x5_1 t209 [.string t209] (fun _ => True) (fun _ => False) rfl rfl ?aP (fun _ hk => hk.elim) ?aF ?aO ?aB ?aS ?aL ?_; (case aP => exact rfl); (case aB => exact (go_b HB.out)); (case aF => exact (fun _ _ => trivial)); (case aO => exact (go_R HO_5.out)); (case aS => exact (below_size (go_b HB.out))); (case aL => have := LMc11.out; omega); intro v211 w13 ho hb hg hat; rw [← Ny210.out] at ho; have n0_ := Aside0.mk (Kd.V_afterv (ok := (fun _ => True)) (by (with_reducible repeat (first | apply Kd.V_alloc | apply Kd.V_drewN | apply Kd.V_drew)); exact Kd.V_mono HO_11.out (fun _ hk => ⟨trivial, hk⟩)) hg hat); have n1_ := Aside0.mk (hb); have n2_ := Aside0.mk (ho); clear HO_11; clear HB; clear HO_5; have HO_11 := n0_; have HB := n1_; have HO212 := n2_; clear n0_ n1_ n2_; clear ho hb hg hat))
        go_roundg k1
        case measure => have := HK1.out; omega
        case rel => exact ⟨(y210), (wrap64 (x13_1 + 1)), (by first | rfl | (simp; done) | (simp [*]; done)), H', ⟨by have := HK1.out; omega⟩, ⟨by (with_reducible repeat (first | apply Kd.R_alloc | apply Kd.R_drewN | apply Kd.R_drew)); exact HO212.out⟩, ⟨by (with_reducible repeat (first | apply Kd.V_alloc | apply Kd.V_drewN | apply Kd.V_drew)); exact Kd.V_mono HO_11.out (fun _ hk => hk.2)⟩, ⟨by repeat (first | (with_reducible first | exact HB.out | apply below_alloc | apply pw_below_drewN | apply below_drew1) | exact HB.out)⟩⟩
       ·rw [if_neg c11] at H
        exact absurd H (by simp)
      ·rw [if_neg c9] at H
       exact absurd H (by simp)
     ·rw [if_neg c8] at H
      exact absurd H (by simp)
    ·rw [if_neg c7] at H
     have c7b0 : decide (x13_1 < (t205.length : Int)) = false := decide_eq_false c7
     clear c7
     obtain rfl := Option.some.inj H
     go_wp2
     go_ret
     exact ⟨_, by first | rfl | (simp [*, errW_none, errW_some, erT_no, erV_no, erT_at, erV_at] <;> rfl), by (with_reducible repeat (first | apply Kd.R_alloc | apply Kd.R_drewN | apply Kd.R_drew)); exact HO_5.out, by repeat (first | (with_reducible first | exact HB.out | apply below_alloc | apply pw_below_drewN | apply below_drew1) | exact HB.out)⟩
 ·rw [if_neg c3] at H
  exact absurd H (by simp)

/-! ### view_File_Words_nil: function 43 -/
def view_File_Words_nil.l0 : Nat → Unit → List ByteArray → List Int → Int → Int → Option (List ByteArray)
 | 0, _, _, _, _, _ => none
 | k + 1, x0, x5, x11, x12, x13 => if x13 < x12 then (if 0 ≤ x13 then (if x13 < (x11.length : Int) then ((view_File_Word_nil.f x0 (rd x11 x13)).bind fun t220 => (if x5.length < 8796093022208 then (view_File_Words_nil.l0 k x0 (x5 ++ [t220]) x11 x12 (wrap64 (x13 + 1))) else (none))) else (none)) else (none)) else (some x5)
def view_File_Words_nil.f (k : Nat) (a0 : Unit) (a1 : Int) : Option (List ByteArray) := (view_File_Node_nil.f a0 a1).bind fun bt213 => (view_File_Words_nil.l0 k a0 ([] : List ByteArray) bt213.2.2.2 (bt213.2.2.2.length : Int) 0)
theorem view_File_Words_nil.mono_l : ∀ k, (∀ y0 y1 y2 y3 y4, LeO (view_File_Words_nil.l0 k y0 y1 y2 y3 y4) (view_File_Words_nil.l0 (k + 1) y0 y1 y2 y3 y4))
 | 0 => fun _ _ _ _ _ r h => by simp [view_File_Words_nil.l0] at h
 | k + 1 => by
  have ih0 := view_File_Words_nil.mono_l k
  ·intro y0 y1 y2 y3 y4
   unfold view_File_Words_nil.l0
   repeat' first
   | (with_reducible exact ih0 _ _ _ _ _)
   | (with_reducible exact LeO.refl _)
   | (with_reducible exact LeO.none _)
   | (with_reducible refine LeO.ite ?_ ?_)
   | (with_reducible refine LeO.bind ?_ (fun _ => ?_))
   | exact ih0 _ _ _ _ _
   | exact LeO.none _
   | refine LeO.ite ?_ ?_
   | refine LeO.bind ?_ (fun _ => ?_)
theorem view_File_Words_nil.mono : ∀ a0 a1 k, LeO (view_File_Words_nil.f k a0 a1) (view_File_Words_nil.f (k + 1) a0 a1) := by
 intro a0 a1 k
 have ih0 := view_File_Words_nil.mono_l k
 unfold view_File_Words_nil.f
 repeat' first
   | (with_reducible exact ih0 _ _ _ _ _)
   | (with_reducible exact LeO.refl _)
   | (with_reducible exact LeO.none _)
   | (with_reducible refine LeO.ite ?_ ?_)
   | (with_reducible refine LeO.bind ?_ (fun _ => ?_))
   | exact ih0 _ _ _ _ _
   | exact LeO.none _
   | refine LeO.ite ?_ ?_
   | refine LeO.bind ?_ (fun _ => ?_)
set_option maxHeartbeats 8000000 in
set_option maxRecDepth 100000 in
theorem view_File_Words_nil.calls (k : Nat) (a0 : Unit) (a1 : Int) (r : List ByteArray) (w : World) (h : view_File_Words_nil.f k a0 a1 = some r) :
  Calls Tryd.prog 43 #[.pointer none, .int .i64 a1] w fun e w' => ∃ v0_ : Value, e = .returned (v0_) ∧ Kd.R Kd.string 9 w' w.heap.size (fun _ => True) v0_ r ∧ Below w.heap.size w w' := by
 have hu33 := Tryd.underlying33
 have hfd33_3 : ∀ (c0_ c1_ c2_ c3_ : Value) (W_ : World), (Instr.field 33 (.agg #[c0_, c1_, c2_, c3_]) 3).run Tryd.prog W_ = .ok (c3_) W_ := fun _ _ _ _ _ => by kernel_rfl
 have HB := Aside0.mk (Below.refl w.heap.size w)
 have H : ((view_File_Node_nil.f a0 a1).bind fun bt213 => (view_File_Words_nil.l0 k a0 ([] : List ByteArray) bt213.2.2.2 (bt213.2.2.2.length : Int) 0)) = some r := h
 clear h
 replace H := Option.bind_eq_some_iff.mp H
 obtain ⟨⟨t213, t214, t215, t216⟩, A30, H⟩ := H
 replace H : (view_File_Words_nil.l0 k a0 ([] : List ByteArray) t216 (t216.length : Int) 0) = some r := H
 have A3 := Aside0.mk A30
 clear A30
 have H' := Aside0.mk H
 clear H
 go_enter Tryd.func43, Tryd.ntmps43
 go_wp2_with (first | ((with_reducible refine gate_callee (f := 40) rfl ?_); refine goesL_ (some 10) rfl rfl Tryd.func40 (by kernel_rfl) rfl #[.pointer none, .int .i64 a1] rfl (by (try simp only [List.map_toArray, List.map_cons, List.map_nil]); first | done | rfl | (simp only [List.length_drop, List.length_take]; rfl)) ?_; (with_reducible refine (view_File_Node_nil.calls a0 a1 t213 t214 t215 t216 _ A3.out).mono ?_); rintro e w4 ⟨v217, rfl, ho0, hb⟩; refine ⟨_, rfl, ?_⟩; have n0_ := Aside0.mk (Kd.R_lower ho0 (below_size (go_b HB.out))); have n1_ := Aside0.mk (below_step (go_b HB.out) hb); clear HB; have HO218 := n0_; have HB := n1_; clear n0_ n1_; (try clear hb); (try clear hb2); (try clear hk); (try clear hi); (try clear ho0); obtain ⟨Ao5, co5, eo5⟩ := Kd.R_slice HO218.out; subst eo5))
 go_loopg [5, 13] k (fun kq v5 v13 w' => ∃ (x5_1 : List ByteArray) (x13_1 : Int), v13 = .int .i64 x13_1 ∧ Aside0 (view_File_Words_nil.l0 kq a0 x5_1 t216 (t216.length : Int) x13_1 = some r) ∧ Aside0 (kq ≤ k) ∧ Aside0 (Kd.R Kd.string 9 w' w.heap.size (fun _ => True) v5 x5_1) ∧ Aside0 (Kd.R (Kd.int .i64) 3 w' w.heap.size (fun _ => True) (.slice Ao5 t216.length co5) t216) ∧ Aside0 (Below w.heap.size w w'))
 case atStart => exact ⟨(([] : List ByteArray)), (0), (by first | rfl | (simp; done) | (simp [*]; done)), H', ⟨Nat.le_refl _⟩, ⟨by first | exact Kd.R_nil _ _ _ _ _ | exact Kd.N_nil _ _ _ _ _ | exact Kd.V_nil _ _ _ _ _ | exact Kd.Q_nil _ _ _ _ _ | exact Kd.S_nil _ _ _ _ _⟩, ⟨by (with_reducible repeat (first | apply Kd.R_alloc | apply Kd.R_drewN | apply Kd.R_drew)); exact HO218.out⟩, ⟨by repeat (first | (with_reducible first | exact HB.out | apply below_alloc | apply pw_below_drewN | apply below_drew1) | exact HB.out)⟩⟩
 case round =>
  clear H'
  try clear p2
  obtain ⟨x5_1, x13_1, rfl, HA, HK1, HO_5, HO_11, HB⟩ := hrel
  cases gk with
  | zero => exact absurd HA.out (by simp [view_File_Words_nil.l0])
  | succ k1 =>
   have H := HA.out
   clear HA
   simp only [view_File_Words_nil.l0] at H
   by_cases c6 : x13_1 < (t216.length : Int)
   ·rw [if_pos c6] at H
    have c6b0 : decide (x13_1 < (t216.length : Int)) = true := decide_eq_true c6
    clear c6
    by_cases c7 : 0 ≤ x13_1
    ·rw [if_pos c7] at H
     have c7b0 : decide (0 ≤ x13_1) = true := decide_eq_true c7
     clear c7
     by_cases c8 : x13_1 < (t216.length : Int)
     ·rw [if_pos c8] at H
      have c8b0 : decide (x13_1 < (t216.length : Int)) = true := decide_eq_true c8
      clear c8
      replace H := Option.bind_eq_some_iff.mp H
      obtain ⟨t220, A90, H⟩ := H
      replace H : (if x5_1.length < 8796093022208 then (view_File_Words_nil.l0 k1 a0 (x5_1 ++ [t220]) t216 (t216.length : Int) (wrap64 (x13_1 + 1))) else (none)) = some r := H
      have A9 := Aside0.mk A90
      clear A90
      by_cases c10 : x5_1.length < 8796093022208
      ·rw [if_pos c10] at H
       have LMc10 := Aside0.mk c10
       clear c10
       obtain ⟨y221, hy221⟩ : ∃ y_ : List ByteArray, y_ = (x5_1 ++ [t220]) := ⟨_, rfl⟩
       replace H : (view_File_Words_nil.l0 k1 a0 y221 t216 (t216.length : Int) (wrap64 (x13_1 + 1))) = some r := by first | (rw [hy221]; with_reducible exact H) | (have H2_ := (Option.bind_some _ _).symm.trans H; rw [hy221]; with_reducible exact H2_) | (have H2_ := (Option.bind_some _ _).symm.trans H; with_reducible exact H2_) | with_reducible exact H | (rw [hy221]; exact H) | exact H
       have Ny221 := Aside0.mk hy221
       clear hy221
       have H' := Aside0.mk H
       clear H
       have p219 : 0 ≤ (x13_1 : Int) := of_dec
       have q219 : x13_1 < (t216.length : Int) := of_dec
       obtain ⟨ad219, e219, hx219_0⟩ := Kd.at_int (Kd.R_reads' HO_11.out).2.2 x13_1 p219 q219
       cases e219
       replace p219 := eq_true p219
       replace q219 := eq_true q219
       go_wp2_with (first | ((with_reducible refine gate_callee (f := 42) rfl ?_); refine goesL_ (some 20) rfl rfl Tryd.func42 (by kernel_rfl) rfl #[.pointer none, .int .i64 (rd t216 x13_1)] rfl (by (try simp only [List.map_toArray, List.map_cons, List.map_nil]); first | done | rfl | (simp only [List.length_drop, List.length_take]; rfl)) ?_; (with_reducible refine (view_File_Word_nil.calls a0 (rd t216 x13_1) t220 _ A9.out).mono ?_); rintro e w11 ⟨rfl, hb⟩; refine ⟨_, rfl, ?_⟩; have n0_ := Aside0.mk (Kd.R_below (go_R HO_5.out) hb); have n1_ := Aside0.mk (Kd.R_below (go_R HO_11.out) hb); have n2_ := Aside0.mk (below_step (go_b HB.out) hb); clear HO_5; clear HO_11; clear HB; have HO_5 := n0_; have HO_11 := n1_; have HB := n2_; clear n0_ n1_ n2_; (try clear hb); (try clear hb2); (try clear hk); (try clear hi)) | ((with_reducible refine gate_builtin (b := .append) (xs := #[.tmp 17, .tmp 21]) rfl ?_); at_builtin; refine Kd.R_append Kd.string (w0 := w) w.heap.size rfl (.tmp 17) (.tmp 21) 76 9 (.string ⟨#[]⟩) 16 rfl Tryd.underlying76 info9 rfl (by decide) (by omega) u5 x5_1 t220 [.string t220] (fun _ => True) (fun _ => False) rfl rfl ?aP (fun _ hk => hk.elim) ?aF ?aO ?aB ?aS ?aL ?_; (case aP => exact rfl); (case aB => exact (go_b HB.out)); (case aF => exact (fun _ _ => trivial)); (case aO => exact (go_R HO_5.out)); (case aS => exact (below_size (go_b HB.out))); (case aL => have := LMc10.out; omega); intro v222 w12 ho hb hg hat; rw [← Ny221.out] at ho; have n0_ := Aside0.mk (Kd.R_over' (go_R HO_11.out) (Kd.R_typed (go_R HO_5.out)) (by decide) hg); have n1_ := Aside0.mk (hb); have n2_ := Aside0.mk (ho); clear HO_11; clear HB; clear HO_5; have HO_11 := n0_; have HB := n1_; have HO223 := n2_; clear n0_ n1_ n2_; clear ho hb hg hat))
       go_roundg k1
       case measure => have := HK1.out; omega
       case rel => exact ⟨(y221), (wrap64 (x13_1 + 1)), (by first | rfl | (simp; done) | (simp [*]; done)), H', ⟨by have := HK1.out; omega⟩, ⟨by (with_reducible repeat (first | apply Kd.R_alloc | apply Kd.R_drewN | apply Kd.R_drew)); exact HO223.out⟩, ⟨by (with_reducible repeat (first | apply Kd.R_alloc | apply Kd.R_drewN | apply Kd.R_drew)); exact HO_11.out⟩, ⟨by repeat (first | (with_reducible first | exact HB.out | apply below_alloc | apply pw_below_drewN | apply below_drew1) | exact HB.out)⟩⟩
      ·rw [if_neg c10] at H
       exact absurd H (by simp)
     ·rw [if_neg c8] at H
      exact absurd H (by simp)
    ·rw [if_neg c7] at H
     exact absurd H (by simp)
   ·rw [if_neg c6] at H
    have c6b0 : decide (x13_1 < (t216.length : Int)) = false := decide_eq_false c6
    clear c6
    obtain rfl := Option.some.inj H
    go_wp2
    go_ret
    exact ⟨_, by first | rfl | (simp [*, errW_none, errW_some, erT_no, erV_no, erT_at, erV_at] <;> rfl), by (with_reducible repeat (first | apply Kd.R_alloc | apply Kd.R_drewN | apply Kd.R_drew)); exact HO_5.out, by repeat (first | (with_reducible first | exact HB.out | apply below_alloc | apply pw_below_drewN | apply below_drew1) | exact HB.out)⟩

/-! ### view_File_Own: function 44 -/
/-- d tokens from one on, behind those so far. -/
def view_File_Own.upto : Nat → List Int → Int → Option (List Int)
 | 0, s, _ => some s
 | d + 1, s, a => if s.length < 17592186044416 ∧ -4611686018427387904 ≤ a ∧ a ≤ 4611686018427387904 then view_File_Own.upto d (s ++ [a]) (a + 1) else none
/-- The tokens so far lie in a row of the call's own, which the variable of block g holds. -/
def view_File_Own.J (B g : Nat) (N : Nat → Prop) (s : List Int) (W : World) : Prop :=
 ∃ v : Value, W.heap[g]? = some (.cells #[v] 31 (0, 0)) ∧ (Kd.int .i64).R 3 W B (fun k => k ≠ g ∧ ¬ N k) v s
theorem view_File_Own.below {B g : Nat} {N : Nat → Prop} {s : List Int} {W W' : World} (h : view_File_Own.J B g N s W) (hb : Below W.heap.size W W') : view_File_Own.J B g N s W' := by
 obtain ⟨v, h1, h2⟩ := h
 exact ⟨v, blk_below h1 hb, Kd.R_below h2 hb⟩
theorem view_File_Own.set {B g : Nat} {N : Nat → Prop} {s : List Int} {W : World} (hg : ¬ N g) (k j : Nat) (u : Value) (hk : N k) (h : view_File_Own.J B g N s W) : view_File_Own.J B g N s (W.setCell ⟨k, j, none⟩ u) := by
 obtain ⟨v, h2, h3⟩ := h
 exact ⟨v, blk_far h2 (p := ⟨k, j, none⟩) (fun e => by subst e; exact hg hk) _, Kd.R_keep (g := k) h3 ((KeepBut.refl _ _ _).set_ j _) (fun q hq e => by subst e; exact hq.2 hk)⟩
set_option maxHeartbeats 4000000 in
set_option maxRecDepth 100000 in
theorem view_File_Own.upto_calls {w0 : World} {B ga g : Nat} {N : Nat → Prop} (hBa : B ≤ ga) (hBg : B ≤ g) (hna : N ga) (hng : ¬ N g) (d : Nat) (s : List Int) (a en : Int) (s' : List Int) (W : World) (h : view_File_Own.upto d s a = some s') (hd : d = (en - a).toNat)
  (hga : W.heap[ga]? = some (.cells #[.int .i64 a] 3 (0, 0))) (hlt : ∀ k, N k → k < W.heap.size) (hJ : view_File_Own.J B g N s W) (hw : Below B w0 W) :
  Calls Tryd.prog 69 #[.int .i64 en, .pointer (some ⟨ga, 0, none⟩), .pointer (some ⟨g, 0, none⟩)] W fun e W' => e = .returned (.tuple #[]) ∧ view_File_Own.J B g N s' W' ∧ Below B w0 W' ∧ (∃ m : Int, W'.heap[ga]? = some (.cells #[.int .i64 m] 3 (0, 0))) ∧ (∀ k, N k → k ≠ ga → W'.heap[k]? = W.heap[k]?) := by
 have ne : ga ≠ g := fun e => by subst e; exact hng hna
 have ne' : g ≠ ga := ne.symm
 have HA := Aside0.mk hga
 have HL := Aside0.mk hlt
 have HJ := Aside0.mk hJ
 have HW := Aside0.mk hw
 have HU := Aside0.mk h
 have HD := Aside0.mk hd
 have NA := Aside0.mk hna
 have NG := Aside0.mk hng
 clear hga hJ hw h hd hna hng hlt
 go_enter Tryd.func69, Tryd.ntmps69
 go_wp2
 go_loopg [] d (fun dq w' => ∃ (s1 : List Int) (a1 : Int), Aside0 (view_File_Own.upto dq s1 a1 = some s') ∧ Aside0 (dq = (en - a1).toNat) ∧ Aside0 (w'.heap[ga]? = some (.cells #[.int .i64 a1] 3 (0, 0))) ∧ Aside0 (∀ k, N k → k ≠ ga → w'.heap[k]? = W.heap[k]?) ∧ Aside0 (∀ k, N k → k < w'.heap.size) ∧ Aside0 (view_File_Own.J B g N s1 w') ∧ Aside0 (Below B w0 w'))
 case atStart => exact ⟨s, a, HU, HD, HA, ⟨fun _ _ _ => rfl⟩, HL, HJ, HW⟩
 case round =>
  clear HA HJ HW HU HD HL
  obtain ⟨s1, a1, HU, HD, HA, HK, HL, HJ, HW⟩ := hrel
  have qa := blk_cell HA.out 0
  simp only [List.getElem?_toArray, List.getElem?_cons_zero] at qa
  by_cases c : a1 < en
  ·have c0 : decide (a1 < en) = true := decide_eq_true c
   have C := Aside0.mk c
   clear c
   obtain ⟨k1, hk1⟩ : ∃ k1, gk = k1 + 1 := ⟨gk - 1, by have := HD.out; have := C.out; omega⟩
   subst hk1
   have hu := HU.out
   simp only [view_File_Own.upto] at hu
   by_cases cb : s1.length < 17592186044416 ∧ -4611686018427387904 ≤ a1 ∧ a1 ≤ 4611686018427387904
   case neg => rw [if_neg cb] at hu; cases hu
   rw [if_pos cb] at hu
   have CB := Aside0.mk cb
   have HU2 := Aside0.mk hu
   clear cb hu HU
   obtain ⟨v, h1, h2⟩ := HJ.out
   have q1 := blk_cell h1 0
   simp only [List.getElem?_toArray, List.getElem?_cons_zero] at q1
   have H1 := Aside0.mk h1
   have H2 := Aside0.mk h2
   clear h1 h2
   go_wp2_with (first
    | ((with_reducible refine gate_builtin (b := .append) (xs := #[.tmp 9, .tmp 11]) rfl ?_); at_builtin; refine Kd.R_append (Kd.int .i64) (w0 := w0) B rfl (.tmp 9) (.tmp 11) 31 3 (.int .i64 0) 8 rfl Tryd.underlying31 info3 rfl (by decide) (by omega) v s1 a1 [.int .i64 a1] (fun k => k ≠ g ∧ ¬ N k) (fun _ => False) rfl rfl rfl (fun _ hk => hk.elim) (fun k hk => ⟨by have := blk_lt H1.out; omega, fun hk' => by have := HL.out k hk'; omega⟩) H2.out HW.out (Nat.le_trans hBa (Nat.le_of_lt (blk_lt HA.out))) (by have := CB.out; omega) ?_; intro v1 w1 ho hb hgr hat; have g1 := (hgr.block g (blk_lt H1.out) (fun e_ => ((H2.out).1 g e_.symm).1 rfl)).trans H1.out; have a1' := (hgr.block ga (blk_lt HA.out) (fun e_ => ((H2.out).1 ga e_.symm).2 NA.out)).trans HA.out; have fz := blk_frozen g1 0; have qz := blk_cell g1 0; have fa := blk_frozen a1' 0; have qq := blk_cell a1' 0; simp only [List.getElem?_toArray, List.getElem?_cons_zero] at qz qq; have G1 := Aside0.mk g1; have A1 := Aside0.mk a1'; have HO := Aside0.mk ho; have HB := Aside0.mk hb; have GR := Aside0.mk hgr; obtain ⟨Av, cv, ev⟩ := Kd.R_slice ho; clear g1 a1' ho hb hgr hat; rw [List.length_append, List.length_singleton] at ev; subst ev))
   have ew : wrap64 (a1 + 1) = a1 + 1 := by have := CB.out; unfold wrap64; omega
   go_roundg k1
   case measure => omega
   case rel =>
    have kept0 : ∀ k, N k → k ≠ ga → ∀ u u', ((w1.setCell ⟨g, 0, none⟩ u).setCell ⟨ga, 0, none⟩ u').heap[k]? = wr.heap[k]? := fun k h0 h2 u u' => (Below.heap_setCell _ ⟨ga, 0, none⟩ _ k h2).trans ((Below.heap_setCell w1 ⟨g, 0, none⟩ _ k (fun e => by subst e; exact NG.out h0)).trans (GR.out.block k (HL.out k h0) (fun e_ => ((H2.out).1 k e_.symm).2 h0)))
    have hga2 : ∀ u u', ((w1.setCell ⟨g, 0, none⟩ u).setCell ⟨ga, 0, none⟩ u').heap[ga]? = some (.cells #[u'] 3 (0, 0)) := fun u u' => blk_put (blk_far A1.out (p := ⟨g, 0, none⟩) ne _) 0 _ rfl
    refine ⟨s1 ++ [a1], wrap64 (a1 + 1), ⟨by rw [ew]; exact HU2.out⟩, ⟨by rw [ew]; have := HD.out; have := C.out; omega⟩, ⟨hga2 _ _⟩, ⟨fun k h0 h2 => (kept0 k h0 h2 _ _).trans (HK.out k h0 h2)⟩, ⟨fun k h0 => ?_⟩, ⟨_, blk_far (blk_put G1.out 0 _ rfl) (p := ⟨ga, 0, none⟩) ne' _, ?_⟩, ⟨(HB.out.setCell (p := ⟨g, 0, none⟩) hBg _).setCell (p := ⟨ga, 0, none⟩) hBa _⟩⟩
    ·by_cases e : k = ga
     ·subst e
      exact blk_lt (hga2 _ _)
     ·exact heap_lt (kept0 k h0 e _ _) (HL.out k h0)
    ·exact Kd.R_keep (g := ga) (Kd.R_keep (g := g) HO.out ((KeepBut.refl _ _ _).set_ 0 _) (fun q hq => hq.1)) ((KeepBut.refl _ _ _).set_ 0 _) (fun q hq e => by subst e; exact hq.2 NA.out)
  ·have c0 : decide (a1 < en) = false := decide_eq_false c
   have C := Aside0.mk c
   clear c
   go_wp2
   refine bodyPost_end (results_none rfl _ _ _) rfl ?_
   have hk0 : gk = 0 := by have := HD.out; have := C.out; omega
   subst hk0
   have e1 : s1 = s' := Option.some.inj HU.out
   subst e1
   exact ⟨rfl, HJ.out, HW.out, ⟨_, HA.out⟩, HK.out⟩
/-- The children from one on, and the tokens between and behind them. -/
def view_File_Own.run (l : List S100) : List Int → List Int → Int → Int → Option (List Int)
 | [], s, at_, to_ => view_File_Own.upto (to_ - at_).toNat s at_
 | k :: ks, s, at_, to_ => (view_File_Node.f l k).bind fun x => (view_File_Own.upto (x.2.1 - at_).toNat s at_).bind fun s1 => view_File_Own.run l ks s1 x.2.2.1 to_
def view_File_Own.f (l0 : List (S100)) (a1 : Int) : Option (List Int) := (view_File_Node.f l0 a1).bind fun x => view_File_Own.run l0 x.2.2.2 [] x.2.1 x.2.2.1
set_option maxHeartbeats 8000000 in
set_option maxRecDepth 100000 in
theorem view_File_Own.calls (A0 : Option Addr) (c0 : Nat) (l0 : List (S100)) (a1 : Int) (r : List Int) (w : World) (hr0 : Kd.C k100 w A0 l0.length l0) (hc0 : l0.length ≤ c0) (h : view_File_Own.f l0 a1 = some r) :
  Calls Tryd.prog 44 #[.pointer A0, .int .i64 a1] w fun e w' => ∃ v0_ : Value, e = .returned v0_ ∧ Kd.R (Kd.int .i64) 3 w' w.heap.size (fun _ => True) v0_ r ∧ Below w.heap.size w w' := by
 obtain ⟨⟨x1, x2, x3, x4⟩, hx, h⟩ := Option.bind_eq_some_iff.mp h
 have hu := Tryd.underlying33
 have AX := Aside0.mk hx
 have HH := Aside0.mk h
 have V0 := Aside0.mk (show Kd.V k100 100 w w.heap.size (fun k_ => k_ < w.heap.size) (.slice A0 l0.length c0) l0 from Kd.V_mk hc0 (Kd.C_F k100_heap hr0))
 clear hx h hr0 hc0
 go_enter Tryd.func44, Tryd.ntmps44
 go_wp2_with (first
  | (go_at_call 40; (refine (view_File_Node.calls (fun k_ => k_ < w.heap.size) A0 c0 l0 a1 x1 x2 x3 x4 _ V0.out AX.out).mono ?_); rintro e w2 ⟨v3, rfl, ho2, hb2⟩; obtain ⟨A3, c3, rfl, hl3, hf3⟩ := ho2; have B2 := Aside0.mk hb2; have C3 := Aside0.mk (Kd.F_now hf3); have V2 := Aside0.mk (Kd.V_mk (d := k100) (e := 100) (base := 0) (ok := fun _ => True) (Kd.V_at V0.out).2.1 (Kd.F_mono (Kd.F_below (Kd.V_at V0.out).2.2 hb2) (fun _ _ => trivial))); have L3 := Aside0.mk hl3; clear hb2 hf3 hl3)
  | ((with_reducible refine gate_dst (N := 5) rfl ?_); refine box_event ?hg (N := 5) ?hd (cs := #[.int .i64 0, .int .i64 0, .int .i64 0, .slice none 0 0]) (t := 33) ?hr ?_; (case hd => rfl); (case hg => rfl); (case hr => first | (go_simp; done) | (go_simp; rfl)); intro gx egx w3 hxx hbx; have X3 := Aside0.mk hxx; have B3 := Aside0.mk hbx; have GX := Aside0.mk (Nat.le_of_eq egx.symm); have q0 := blk_cell hxx 0; have q1 := blk_cell hxx 1; have q2 := blk_cell hxx 2; have q3 := blk_cell hxx 3; have z0 := blk_frozen hxx 0; have z1 := blk_frozen hxx 1; have z2 := blk_frozen hxx 2; have z3 := blk_frozen hxx 3; simp only [List.getElem?_toArray, List.getElem?_cons_zero, List.getElem?_cons_succ] at q0 q1 q2 q3; clear hxx hbx egx)
  | ((with_reducible refine gate_dst (N := 6) rfl ?_); refine box_event ?hg (N := 6) ?hd (cs := #[.slice none 0 0]) (t := 31) ?hr ?_; (case hd => rfl); (case hg => rfl); (case hr => first | (go_simp; done) | (go_simp; rfl)); intro g egg w4 hxg hbg; have hx4 : w4.heap[gx]? = some (.cells #[.int .i64 x1, .int .i64 x2, .int .i64 x3, .slice A3 x4.length c3] 33 (0, 0)) := blk_below (blk_put (blk_put (blk_put (blk_put X3.out 0 _ rfl) 1 _ rfl) 2 _ rfl) 3 _ rfl) hbg; have bs := (((B3.out.setCell (p := ⟨gx, 0, none⟩) GX.out (.int .i64 x1)).setCell (p := ⟨gx, 1, none⟩) GX.out (.int .i64 x2)).setCell (p := ⟨gx, 2, none⟩) GX.out (.int .i64 x3)).setCell (p := ⟨gx, 3, none⟩) GX.out (.slice A3 x4.length c3); have X4 := Aside0.mk hx4; have B4 := Aside0.mk (bs.trans (hbg.mono bs.size)); have GG := Aside0.mk (Nat.le_trans bs.size (Nat.le_of_eq egg.symm)); have G4 := Aside0.mk hxg; have nx := Aside0.mk (show gx ≠ g from fun e => by have h1 := blk_lt (blk_put (blk_put (blk_put (blk_put X3.out 0 (.int .i64 x1) rfl) 1 (.int .i64 x2) rfl) 2 (.int .i64 x3) rfl) 3 (.slice A3 x4.length c3) rfl); have h2 := Nat.le_of_eq egg.symm; omega); have q1' := blk_cell hx4 1; simp only [List.getElem?_toArray, List.getElem?_cons_zero, List.getElem?_cons_succ] at q1'; clear hxg hbg egg bs hx4 q0 q1 q2 q3 z0 z1 z2 z3)
  | ((with_reducible refine gate_dst (N := 7) rfl ?_); refine box_event ?hg (N := 7) ?hd (cs := #[.int .i64 0]) (t := 3) ?hr ?_; (case hd => rfl); (case hg => rfl); (case hr => first | (go_simp; done) | (go_simp; rfl)); intro ga ega w5 hxa hba; have hx5 := blk_below X4.out hba; have hg5 := blk_below G4.out hba; have na : ga ≠ g := fun e => by { have h1 := blk_lt G4.out; have h2 := ega; omega }; have nb : ga ≠ gx := fun e => by { have h1 := blk_lt X4.out; have h2 := ega; omega }; have nb' : gx ≠ ga := nb.symm; have X5 := Aside0.mk hx5; have G5 := Aside0.mk hg5; have A5 := Aside0.mk hxa; have B5 := Aside0.mk (B4.out.trans (hba.mono B4.out.size)); have GA := Aside0.mk (Nat.le_trans B4.out.size (Nat.le_of_eq ega.symm)); have q5 := blk_cell hxa 0; have z5 := blk_frozen hxa 0; have q53 := blk_cell hx5 3; simp only [List.getElem?_toArray, List.getElem?_cons_zero, List.getElem?_cons_succ] at q5 q53; clear hx5 hg5 hxa hba q1' ega))
 obtain ⟨N, hN⟩ : ∃ N : Nat → Prop, N = fun k => k = ga ∨ k = gx := ⟨_, rfl⟩
 have NA := Aside0.mk (show N ga by rw [hN]; exact .inl rfl)
 have NX := Aside0.mk (show N gx by rw [hN]; exact .inr rfl)
 have NG := Aside0.mk (show ¬ N g by { rw [hN]; intro h; exact Or.elim h (fun h => na h.symm) (fun h => nx.out h.symm) })
 have NE := Aside0.mk (show ∀ k, N k → k = ga ∨ k = gx by { intro k h; rw [hN] at h; exact h })
 clear hN
 have HKL := Aside0.mk (show x4.length ≤ 9223372036854775807 from C3.out.2.1)
 have hfd1 : ∀ (a b c d : Value) (W_ : World), (Instr.field 33 (.agg #[a, b, c, d]) 1).run Tryd.prog W_ = .ok b W_ := fun _ _ _ _ _ => by kernel_rfl
 have hfd2 : ∀ (a b c d : Value) (W_ : World), (Instr.field 33 (.agg #[a, b, c, d]) 2).run Tryd.prog W_ = .ok c W_ := fun _ _ _ _ _ => by kernel_rfl
 have hJset : ∀ (s : List Int) (W : World) (u : Value), view_File_Own.J w2.heap.size g N s W → view_File_Own.J w2.heap.size g N s (W.setCell ⟨ga, 0, none⟩ u) := fun s W u h => view_File_Own.set NG.out ga 0 u NA.out h
 have JS := Aside0.mk hJset
 have W2 := Aside0.mk (show ∀ W, Below w2.heap.size w2 W → Kd.V k100 100 W W.heap.size (fun _ => True) (.slice A0 l0.length c0) l0 from fun W hb => Kd.V_below V2.out hb)
 have na_ := Aside0.mk na
 have nb_ := Aside0.mk nb
 clear hJset V2 V0 q5 z5 q53 na nb nb'
 go_loopg [20] x4.length (fun kq v20 w' => ∃ (i : Nat) (s1 : List Int) (b1 : Int), v20 = .int .i64 (i : Int) ∧ Aside0 (i + kq = x4.length) ∧ Aside0 (view_File_Own.run l0 (x4.drop i) s1 b1 x3 = some r) ∧ Aside0 (w'.heap[ga]? = some (.cells #[.int .i64 b1] 3 (0, 0))) ∧ Aside0 (w'.heap[gx]? = some (.cells #[.int .i64 x1, .int .i64 x2, .int .i64 x3, .slice A3 x4.length c3] 33 (0, 0))) ∧ Aside0 (view_File_Own.J w2.heap.size g N s1 w') ∧ Aside0 (Below w2.heap.size w2 w'))
 case atStart => exact ⟨0, [], x2, rfl, ⟨by omega⟩, HH, ⟨blk_put A5.out 0 _ rfl⟩, ⟨blk_far X5.out (p := ⟨ga, 0, none⟩) nb_.out.symm _⟩, ⟨JS.out _ _ _ ⟨_, G5.out, Kd.R_nil _ _ _ _ _⟩⟩, ⟨B5.out.setCell (p := ⟨ga, 0, none⟩) GA.out _⟩⟩
 case round =>
  clear HH X3 B3 X4 B4 G4 X5 G5 A5 B5
  obtain ⟨i, s1, b1, rfl, HI, HU, HA, HX, HJ, HW⟩ := hrel
  by_cases cq : i < x4.length
  ·have c1 : (i : Int) < (x4.length : Int) := by omega
   have c2 : decide ((i : Int) < (x4.length : Int)) = true := decide_eq_true c1
   have hu0 := HU.out
   rw [List.drop_eq_getElem_cons cq] at hu0
   obtain ⟨kk, hkk⟩ : ∃ kk, kk = x4[i] := ⟨_, rfl⟩
   rw [← hkk] at hu0
   simp only [view_File_Own.run] at hu0
   obtain ⟨⟨y1, y2, y3, y4⟩, hy, hu0⟩ := Option.bind_eq_some_iff.mp hu0
   obtain ⟨s2, hs2, hu0⟩ := Option.bind_eq_some_iff.mp hu0
   have AY := Aside0.mk hy
   have S2 := Aside0.mk hs2
   have U2 := Aside0.mk hu0
   obtain ⟨ad1, cc, eA1, _, hK1, hc1⟩ := Kd.C_get C3.out (0 : Int) (i : Int) (by omega) c1
   have hK1' : cc = [.int .i64 (x4.getD (i : Int).toNat 0)] := hK1
   subst hK1'
   have hc1' : w2.cell? (ad1.add i) = some (.int .i64 kk) := by
    have := hc1 0 _ rfl
    rw [Int.toNat_natCast, show i * (Kd.int IntKind.i64).sz + 0 = i by show i * 1 + 0 = i; omega, List.getD_eq_getElem?_getD, List.getElem?_eq_getElem cq] at this
    rw [this, hkk]
    rfl
   have K1 := (HW.out.cell (World.block_lt_of_cell? w2 _ hc1')).trans hc1'
   subst eA1
   clear hK1 hc1 hc1' hkk hy hs2 hu0 HU
   go_wp2_with (first | (go_at_call 40; refine Hid.out ?_))
   refine Lib.hid ?_
   refine (view_File_Node.calls (fun _ => True) A0 c0 l0 kk y1 y2 y3 y4 wr (W2.out _ HW.out) AY.out).mono ?_
   rintro e w6 ⟨v6, rfl, ho6, hb6⟩
   obtain ⟨A6, c6, rfl, hl6, hf6⟩ := ho6
   have b6 := HW.out.trans (hb6.mono HW.out.size)
   have a6 := blk_below HA.out hb6
   have x6 := blk_below HX.out hb6
   have j6 := view_File_Own.below HJ.out hb6
   have B6 := Aside0.mk b6
   have A6' := Aside0.mk a6
   have X6 := Aside0.mk x6
   have J6 := Aside0.mk j6
   have LT6 := Aside0.mk (show ∀ k, N k → k < w6.heap.size from fun k hk => Or.elim (NE.out k hk) (fun e => by rw [e]; exact blk_lt a6) (fun e => by rw [e]; exact blk_lt x6))
   clear hb6 b6 a6 x6 j6 hl6 hf6
   go_wp2_with (first
    | (go_at_call 69; (with_reducible refine (view_File_Own.upto_calls (w0 := w2) (B := w2.heap.size) (N := N) GA.out GG.out NA.out NG.out _ s1 b1 y2 s2 _ S2.out rfl A6'.out LT6.out J6.out B6.out).mono ?_); rintro e w7 ⟨rfl, hj7, hb7, ⟨m7, ha7⟩, hk7⟩; have hx7 := (hk7 gx NX.out nb_.out.symm).trans X6.out; have X7 := Aside0.mk hx7; have A7 := Aside0.mk ha7; have J7 := Aside0.mk hj7; have B7 := Aside0.mk hb7; clear hx7 ha7 hj7 hb7 hk7)
    | (go_at_call 40; refine Hid.out ?_))
   refine Lib.hid ?_
   refine (view_File_Node.calls (fun _ => True) A0 c0 l0 kk y1 y2 y3 y4 w7 (W2.out _ B7.out) AY.out).mono ?_
   rintro e w8 ⟨v8, rfl, ho8, hb8⟩
   obtain ⟨A8, c8, rfl, hl8, hf8⟩ := ho8
   have b8 := B7.out.trans (hb8.mono B7.out.size)
   have a8 := blk_below A7.out hb8
   have x8 := blk_below X7.out hb8
   have j8 := view_File_Own.below J7.out hb8
   have q8 := blk_cell a8 0
   have z8 := blk_frozen a8 0
   simp only [List.getElem?_toArray, List.getElem?_cons_zero, List.getElem?_cons_succ] at q8
   have B8 := Aside0.mk b8
   have A8' := Aside0.mk a8
   have X8 := Aside0.mk x8
   have J8 := Aside0.mk j8
   clear hb8 b8 a8 x8 j8 hl8 hf8
   go_wp2
   have ew : wrap64 ((i : Int) + 1) = ((i + 1 : Nat) : Int) := by have := HKL.out; unfold wrap64; omega
   go_roundg (x4.length - (i + 1))
   case measure => have := HI.out; omega
   case rel => exact ⟨i + 1, s2, _, by rw [ew], ⟨by omega⟩, U2, ⟨blk_put A8'.out 0 _ rfl⟩, ⟨blk_far X8.out (p := ⟨ga, 0, none⟩) nb_.out.symm _⟩, ⟨JS.out _ _ _ J8.out⟩, ⟨B8.out.setCell (p := ⟨ga, 0, none⟩) GA.out _⟩⟩
  ·have c1 : ¬ (i : Int) < (x4.length : Int) := by omega
   have c2 : decide ((i : Int) < (x4.length : Int)) = false := decide_eq_false c1
   have hi0 : i = x4.length := by have := HI.out; omega
   have hu0 := HU.out
   rw [hi0, List.drop_length] at hu0
   simp only [view_File_Own.run] at hu0
   have U2 := Aside0.mk hu0
   have LT := Aside0.mk (show ∀ k, N k → k < wr.heap.size from fun k hk => Or.elim (NE.out k hk) (fun e => by rw [e]; exact blk_lt HA.out) (fun e => by rw [e]; exact blk_lt HX.out))
   have q2 := blk_cell HX.out 2
   simp only [List.getElem?_toArray, List.getElem?_cons_zero, List.getElem?_cons_succ] at q2
   clear hu0 HU
   go_wp2_with (first
    | (go_at_call 69; (with_reducible refine (view_File_Own.upto_calls (w0 := w2) (B := w2.heap.size) (N := N) GA.out GG.out NA.out NG.out _ s1 b1 x3 r _ U2.out rfl HA.out LT.out HJ.out HW.out).mono ?_); rintro e w7 ⟨rfl, ⟨v7, hg7, ho7⟩, hb7, _, _⟩; have q7 := blk_cell hg7 0; simp only [List.getElem?_toArray, List.getElem?_cons_zero] at q7; have O7 := Aside0.mk ho7; have B7 := Aside0.mk hb7; clear hg7 ho7 hb7))
   go_ret
   exact ⟨_, rfl, Kd.R_mono (Kd.R_lower O7.out B2.out.size) (fun _ _ => trivial), B2.out.trans (B7.out.mono B2.out.size)⟩

/-! ### view_File_Own_nil: function 44 -/
def view_File_Own_nil.f (a0 : Unit) (a1 : Int) : Option (List Int) := some []
set_option maxHeartbeats 8000000 in
set_option maxRecDepth 100000 in
theorem view_File_Own_nil.calls (a0 : Unit) (a1 : Int) (r : List Int) (w : World) (h : view_File_Own_nil.f a0 a1 = some r) :
  Calls Tryd.prog 44 #[.pointer none, .int .i64 a1] w fun e w' => ∃ v0_ : Value, e = .returned v0_ ∧ Kd.R (Kd.int .i64) 3 w' w.heap.size (fun _ => True) v0_ r ∧ Below w.heap.size w w' := by
 obtain rfl := Option.some.inj h
 clear h
 have hu := Tryd.underlying33
 have AX : view_File_Node_nil.f a0 a1 = some (0, 0, 0, []) := rfl
 go_enter Tryd.func44, Tryd.ntmps44
 go_wp2_with (first
  | (go_at_call 40; (refine (view_File_Node_nil.calls a0 a1 0 0 0 [] _ AX).mono ?_); rintro e w2 ⟨v3, rfl, ho2, hb2⟩; obtain ⟨A3, c3, rfl⟩ := Kd.R_slice ho2; have B2 := Aside0.mk hb2; clear hb2 ho2)
  | ((with_reducible refine gate_dst (N := 5) rfl ?_); refine box_event ?hg (N := 5) ?hd (cs := #[.int .i64 0, .int .i64 0, .int .i64 0, .slice none 0 0]) (t := 33) ?hr ?_; (case hd => rfl); (case hg => rfl); (case hr => first | (go_simp; done) | (go_simp; rfl)); intro gx egx w3 hxx hbx; have X3 := Aside0.mk hxx; have B3 := Aside0.mk hbx; have GX := Aside0.mk (Nat.le_of_eq egx.symm); have q0 := blk_cell hxx 0; have q1 := blk_cell hxx 1; have q2 := blk_cell hxx 2; have q3 := blk_cell hxx 3; have z0 := blk_frozen hxx 0; have z1 := blk_frozen hxx 1; have z2 := blk_frozen hxx 2; have z3 := blk_frozen hxx 3; simp only [List.getElem?_toArray, List.getElem?_cons_zero, List.getElem?_cons_succ] at q0 q1 q2 q3; clear hxx hbx egx)
  | ((with_reducible refine gate_dst (N := 6) rfl ?_); refine box_event ?hg (N := 6) ?hd (cs := #[.slice none 0 0]) (t := 31) ?hr ?_; (case hd => rfl); (case hg => rfl); (case hr => first | (go_simp; done) | (go_simp; rfl)); intro g egg w4 hxg hbg; have hx4 : w4.heap[gx]? = some (.cells #[.int .i64 0, .int .i64 0, .int .i64 0, .slice A3 0 c3] 33 (0, 0)) := blk_below (blk_put (blk_put (blk_put (blk_put X3.out 0 _ rfl) 1 _ rfl) 2 _ rfl) 3 _ rfl) hbg; have bs := (((B3.out.setCell (p := ⟨gx, 0, none⟩) GX.out (.int .i64 0)).setCell (p := ⟨gx, 1, none⟩) GX.out (.int .i64 0)).setCell (p := ⟨gx, 2, none⟩) GX.out (.int .i64 0)).setCell (p := ⟨gx, 3, none⟩) GX.out (.slice A3 0 c3); have X4 := Aside0.mk hx4; have B4 := Aside0.mk (bs.trans (hbg.mono bs.size)); have GG := Aside0.mk (Nat.le_trans bs.size (Nat.le_of_eq egg.symm)); have G4 := Aside0.mk hxg; have nx := Aside0.mk (show gx ≠ g from fun e => by have h1 := blk_lt (blk_put (blk_put (blk_put (blk_put X3.out 0 (.int .i64 0) rfl) 1 (.int .i64 0) rfl) 2 (.int .i64 0) rfl) 3 (.slice A3 0 c3) rfl); have h2 := Nat.le_of_eq egg.symm; omega); have q1' := blk_cell hx4 1; simp only [List.getElem?_toArray, List.getElem?_cons_zero, List.getElem?_cons_succ] at q1'; clear hxg hbg egg bs hx4 q0 q1 q2 q3 z0 z1 z2 z3)
  | ((with_reducible refine gate_dst (N := 7) rfl ?_); refine box_event ?hg (N := 7) ?hd (cs := #[.int .i64 0]) (t := 3) ?hr ?_; (case hd => rfl); (case hg => rfl); (case hr => first | (go_simp; done) | (go_simp; rfl)); intro ga ega w5 hxa hba; have hx5 := blk_below X4.out hba; have hg5 := blk_below G4.out hba; have na : ga ≠ g := fun e => by { have h1 := blk_lt G4.out; have h2 := ega; omega }; have nb : ga ≠ gx := fun e => by { have h1 := blk_lt X4.out; have h2 := ega; omega }; have nb' : gx ≠ ga := nb.symm; have X5 := Aside0.mk hx5; have G5 := Aside0.mk hg5; have A5 := Aside0.mk hxa; have B5 := Aside0.mk (B4.out.trans (hba.mono B4.out.size)); have GA := Aside0.mk (Nat.le_trans B4.out.size (Nat.le_of_eq ega.symm)); have q5 := blk_cell hxa 0; have z5 := blk_frozen hxa 0; have q53 := blk_cell hx5 3; simp only [List.getElem?_toArray, List.getElem?_cons_zero, List.getElem?_cons_succ] at q5 q53; clear hx5 hg5 hxa hba q1' ega))
 obtain ⟨N, hN⟩ : ∃ N : Nat → Prop, N = fun k => k = ga ∨ k = gx := ⟨_, rfl⟩
 have NA := Aside0.mk (show N ga by rw [hN]; exact .inl rfl)
 have NX := Aside0.mk (show N gx by rw [hN]; exact .inr rfl)
 have NG := Aside0.mk (show ¬ N g by { rw [hN]; intro h; exact Or.elim h (fun h => na h.symm) (fun h => nx.out h.symm) })
 have NE := Aside0.mk (show ∀ k, N k → k = ga ∨ k = gx by { intro k h; rw [hN] at h; exact h })
 clear hN
 have hJset : ∀ (s : List Int) (W : World) (u : Value), view_File_Own.J w2.heap.size g N s W → view_File_Own.J w2.heap.size g N s (W.setCell ⟨ga, 0, none⟩ u) := fun s W u h => view_File_Own.set NG.out ga 0 u NA.out h
 have JS := Aside0.mk hJset
 have na_ := Aside0.mk na
 have nb_ := Aside0.mk nb
 clear hJset q5 z5 q53 na nb nb'
 go_loopg [20] 0 (fun kq v20 w' => v20 = .int .i64 0 ∧ Aside0 (w'.heap[ga]? = some (.cells #[.int .i64 0] 3 (0, 0))) ∧ Aside0 (w'.heap[gx]? = some (.cells #[.int .i64 0, .int .i64 0, .int .i64 0, .slice A3 0 c3] 33 (0, 0))) ∧ Aside0 (view_File_Own.J w2.heap.size g N [] w') ∧ Aside0 (Below w2.heap.size w2 w'))
 case atStart => exact ⟨rfl, ⟨blk_put A5.out 0 _ rfl⟩, ⟨blk_far X5.out (p := ⟨ga, 0, none⟩) nb_.out.symm _⟩, ⟨JS.out _ _ _ ⟨_, G5.out, Kd.R_nil _ _ _ _ _⟩⟩, ⟨B5.out.setCell (p := ⟨ga, 0, none⟩) GA.out _⟩⟩
 case round =>
  clear X3 B3 X4 B4 G4 X5 G5 A5 B5
  obtain ⟨rfl, HA, HX, HJ, HW⟩ := hrel
  have LT := Aside0.mk (show ∀ k, N k → k < wr.heap.size from fun k hk => Or.elim (NE.out k hk) (fun e => by rw [e]; exact blk_lt HA.out) (fun e => by rw [e]; exact blk_lt HX.out))
  have q2 := blk_cell HX.out 2
  simp only [List.getElem?_toArray, List.getElem?_cons_zero, List.getElem?_cons_succ] at q2
  go_wp2_with (first
   | (go_at_call 69; (with_reducible refine (view_File_Own.upto_calls (w0 := w2) (B := w2.heap.size) (N := N) GA.out GG.out NA.out NG.out 0 [] 0 0 [] _ rfl rfl HA.out LT.out HJ.out HW.out).mono ?_); rintro e w7 ⟨rfl, ⟨v7, hg7, ho7⟩, hb7, _, _⟩; have q7 := blk_cell hg7 0; simp only [List.getElem?_toArray, List.getElem?_cons_zero] at q7; have O7 := Aside0.mk ho7; have B7 := Aside0.mk hb7; clear hg7 ho7 hb7))
  go_ret
  exact ⟨_, rfl, Kd.R_mono (Kd.R_lower O7.out B2.out.size) (fun _ _ => trivial), B2.out.trans (B7.out.mono B2.out.size)⟩

end Go.Proofs.YtnpgadfoohjlnaaDoor.QV
