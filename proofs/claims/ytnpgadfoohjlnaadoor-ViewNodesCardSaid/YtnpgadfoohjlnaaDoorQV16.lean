/- Where a Lean function of this text answers, the Go function of its name comes to that answer: no other condition. Written by a program of this session out of the translation; Lean checks it. -/
import Derived.Test.YtnpgadfoohjlnaaDoorQV0
import Derived.Test.YtnpgadfoohjlnaaDoorQV3
import Derived.Test.YtnpgadfoohjlnaaDoorQV4
import Derived.Test.YtnpgadfoohjlnaaDoorQV6
import Derived.Test.YtnpgadfoohjlnaaDoorQV7
import Derived.Test.YtnpgadfoohjlnaaDoorQV8
import Derived.Test.YtnpgadfoohjlnaaDoorQV9
import Derived.Test.YtnpgadfoohjlnaaDoorQV12
namespace Go.Proofs.YtnpgadfoohjlnaaDoor.QV
open Go.RowKit Go.Proofs.YtnpgadfoohjlnaaDoorW.PrintWords Go.Proofs.YtnpgadfoohjlnaaDoorW.PrintLast Go.Proofs.YtnpgadfoohjlnaaDoorW.PrintMore Go.Proofs.YtnpgadfoohjlnaaDoorW.PrintX
attribute [local go_sem] max2_int min2_int max_two min_two max_three min_three max_four min_four   -- for this text's walks alone
set_option linter.unusedVariables false
set_option linter.unusedSimpArgs false

/-! ### cavillaw15_ViewNodes_nil: function 9 -/
def cavillaw15_ViewNodes_nil.f (k : Nat) (l0_0 : List Int) (l0_1 : List (S103)) (l0_2 : List (S33)) (a1 : Int) (a2 : Int) : Option (Bool) := (cavillaw15_few.f k l0_0 l0_1 l0_2).bind fun bt358 => ((view_New_nil.f k bt358.1 bt358.2.1 bt358.2.2).bind fun bt367 => ((cavilref13_Check.f k bt358.2.2 (bt358.2.1.length : Int)).bind fun bt369 => ((cavillaw01_Code.f k (some bt367.2)).bind fun t371 => (if t371 = bt369.1 then ((cavillaw01_Off.f (some bt367.2)).bind fun t372 => (if t372 = bt369.2 then (if (true != (bt369.1 != 0)) = true then (some false) else ((view_File_Node_nil.f bt367.1 a1).bind fun bt373 => (if bt373.1 = 0 then ((view_File_Kid_nil.f bt367.1 a1 a2).bind fun t379 => (if t379 = (-1) then ((view_File_Word_nil.f bt367.1 a1).bind fun t380 => (if t380.toList = ([] : List UInt8) then ((view_File_Words_nil.f k bt367.1 a1).bind fun t381 => ((view_File_Own_nil.f bt367.1 a1).bind fun t384 => (if (wrap64 ((t381.length : Int) + (t384.length : Int))) = 0 then ((cavillaw15_works.f k).bind fun t387 => (some t387)) else (some false)))) else (some false))) else (some false))) else (some false)))) else (some false))) else (some false)))))
theorem cavillaw15_ViewNodes_nil.mono : ∀ a0 a1 a2 a3 a4 k, LeO (cavillaw15_ViewNodes_nil.f k a0 a1 a2 a3 a4) (cavillaw15_ViewNodes_nil.f (k + 1) a0 a1 a2 a3 a4) := by
 intro a0 a1 a2 a3 a4 k
 unfold cavillaw15_ViewNodes_nil.f
 repeat' first
   | (with_reducible exact cavillaw01_Code.mono _ _)
   | (with_reducible exact cavillaw15_few.mono _ _ _ _)
   | (with_reducible exact cavillaw15_works.mono _)
   | (with_reducible exact cavilref13_Check.mono _ _ _)
   | (with_reducible exact view_File_Words_nil.mono _ _ _)
   | (with_reducible exact view_New_nil.mono _ _ _ _)
   | (with_reducible exact LeO.refl _)
   | (with_reducible exact LeO.none _)
   | (with_reducible refine LeO.ite ?_ ?_)
   | (with_reducible refine LeO.bind ?_ (fun _ => ?_))
   | exact cavillaw01_Code.mono _ _
   | exact cavillaw15_few.mono _ _ _ _
   | exact cavillaw15_works.mono _
   | exact cavilref13_Check.mono _ _ _
   | exact view_File_Words_nil.mono _ _ _
   | exact view_New_nil.mono _ _ _ _
   | exact LeO.none _
   | refine LeO.ite ?_ ?_
   | refine LeO.bind ?_ (fun _ => ?_)
set_option maxHeartbeats 8000000 in
set_option maxRecDepth 100000 in
theorem cavillaw15_ViewNodes_nil.calls (k : Nat) (A0_0 : Option Addr) (c0_0 : Nat) (l0_0 : List Int) (A0_1 : Option Addr) (c0_1 : Nat) (l0_1 : List (S103)) (A0_2 : Option Addr) (c0_2 : Nat) (l0_2 : List (S33)) (a1 : Int) (a2 : Int) (r : Bool) (w : World) (hG : GL_ w) (hr0_0 : Kd.C (Kd.int .u8) w A0_0 l0_0.length l0_0) (hc0_0 : l0_0.length ≤ c0_0) (hr0_1 : Kd.C k103 w A0_1 l0_1.length l0_1) (hc0_1 : l0_1.length ≤ c0_1) (hr0_2 : Kd.C k33 w A0_2 l0_2.length l0_2) (hc0_2 : l0_2.length ≤ c0_2) (h : cavillaw15_ViewNodes_nil.f k l0_0 l0_1 l0_2 a1 a2 = some r) (hrt : r = true) :
  Calls Tryd.prog 9 #[.agg #[.slice A0_0 l0_0.length c0_0, .slice A0_1 l0_1.length c0_1, .slice A0_2 l0_2.length c0_2], .int .i64 a1, .int .i64 a2] w fun e w' => e = .returned (.bool r) ∧ Below w.heap.size w w' := by
 have HRT := Aside0.mk hrt
 clear hrt
 have hu68 := Tryd.underlying68
 have hu24 := Tryd.underlying24
 have hu33 := Tryd.underlying33
 have hfd33_0 : ∀ (c0_ c1_ c2_ c3_ : Value) (W_ : World), (Instr.field 33 (.agg #[c0_, c1_, c2_, c3_]) 0).run Tryd.prog W_ = .ok (c0_) W_ := fun _ _ _ _ _ => by kernel_rfl
 have HR0_0 := Aside0.mk hr0_0
 have HC0_0 := Aside0.mk hc0_0
 clear hr0_0 hc0_0
 have HR0_1 := Aside0.mk hr0_1
 have HC0_1 := Aside0.mk hc0_1
 clear hr0_1 hc0_1
 have HR0_2 := Aside0.mk hr0_2
 have HC0_2 := Aside0.mk hc0_2
 clear hr0_2 hc0_2
 have HB := Aside0.mk (Below.refl w.heap.size w)
 have HG := Aside0.mk hG
 clear hG
 have H : ((cavillaw15_few.f k l0_0 l0_1 l0_2).bind fun bt358 => ((view_New_nil.f k bt358.1 bt358.2.1 bt358.2.2).bind fun bt367 => ((cavilref13_Check.f k bt358.2.2 (bt358.2.1.length : Int)).bind fun bt369 => ((cavillaw01_Code.f k (some bt367.2)).bind fun t371 => (if t371 = bt369.1 then ((cavillaw01_Off.f (some bt367.2)).bind fun t372 => (if t372 = bt369.2 then (if (true != (bt369.1 != 0)) = true then (some false) else ((view_File_Node_nil.f bt367.1 a1).bind fun bt373 => (if bt373.1 = 0 then ((view_File_Kid_nil.f bt367.1 a1 a2).bind fun t379 => (if t379 = (-1) then ((view_File_Word_nil.f bt367.1 a1).bind fun t380 => (if t380.toList = ([] : List UInt8) then ((view_File_Words_nil.f k bt367.1 a1).bind fun t381 => ((view_File_Own_nil.f bt367.1 a1).bind fun t384 => (if (wrap64 ((t381.length : Int) + (t384.length : Int))) = 0 then ((cavillaw15_works.f k).bind fun t387 => (some t387)) else (some false)))) else (some false))) else (some false))) else (some false)))) else (some false))) else (some false)))))) = some r := h
 clear h
 replace H := Option.bind_eq_some_iff.mp H
 obtain ⟨⟨t358, t361, t364⟩, A40, H⟩ := H
 replace H : ((view_New_nil.f k t358 t361 t364).bind fun bt367 => ((cavilref13_Check.f k t364 (t361.length : Int)).bind fun bt369 => ((cavillaw01_Code.f k (some bt367.2)).bind fun t371 => (if t371 = bt369.1 then ((cavillaw01_Off.f (some bt367.2)).bind fun t372 => (if t372 = bt369.2 then (if (true != (bt369.1 != 0)) = true then (some false) else ((view_File_Node_nil.f bt367.1 a1).bind fun bt373 => (if bt373.1 = 0 then ((view_File_Kid_nil.f bt367.1 a1 a2).bind fun t379 => (if t379 = (-1) then ((view_File_Word_nil.f bt367.1 a1).bind fun t380 => (if t380.toList = ([] : List UInt8) then ((view_File_Words_nil.f k bt367.1 a1).bind fun t381 => ((view_File_Own_nil.f bt367.1 a1).bind fun t384 => (if (wrap64 ((t381.length : Int) + (t384.length : Int))) = 0 then ((cavillaw15_works.f k).bind fun t387 => (some t387)) else (some false)))) else (some false))) else (some false))) else (some false)))) else (some false))) else (some false))))) = some r := H
 have A4 := Aside0.mk A40
 clear A40
 replace H := Option.bind_eq_some_iff.mp H
 obtain ⟨⟨t367, t368⟩, A50, H⟩ := H
 replace H : ((cavilref13_Check.f k t364 (t361.length : Int)).bind fun bt369 => ((cavillaw01_Code.f k (some t368)).bind fun t371 => (if t371 = bt369.1 then ((cavillaw01_Off.f (some t368)).bind fun t372 => (if t372 = bt369.2 then (if (true != (bt369.1 != 0)) = true then (some false) else ((view_File_Node_nil.f t367 a1).bind fun bt373 => (if bt373.1 = 0 then ((view_File_Kid_nil.f t367 a1 a2).bind fun t379 => (if t379 = (-1) then ((view_File_Word_nil.f t367 a1).bind fun t380 => (if t380.toList = ([] : List UInt8) then ((view_File_Words_nil.f k t367 a1).bind fun t381 => ((view_File_Own_nil.f t367 a1).bind fun t384 => (if (wrap64 ((t381.length : Int) + (t384.length : Int))) = 0 then ((cavillaw15_works.f k).bind fun t387 => (some t387)) else (some false)))) else (some false))) else (some false))) else (some false)))) else (some false))) else (some false)))) = some r := H
 have A5 := Aside0.mk A50
 clear A50
 replace H := Option.bind_eq_some_iff.mp H
 obtain ⟨⟨t369, t370⟩, A60, H⟩ := H
 replace H : ((cavillaw01_Code.f k (some t368)).bind fun t371 => (if t371 = t369 then ((cavillaw01_Off.f (some t368)).bind fun t372 => (if t372 = t370 then (if (true != (t369 != 0)) = true then (some false) else ((view_File_Node_nil.f t367 a1).bind fun bt373 => (if bt373.1 = 0 then ((view_File_Kid_nil.f t367 a1 a2).bind fun t379 => (if t379 = (-1) then ((view_File_Word_nil.f t367 a1).bind fun t380 => (if t380.toList = ([] : List UInt8) then ((view_File_Words_nil.f k t367 a1).bind fun t381 => ((view_File_Own_nil.f t367 a1).bind fun t384 => (if (wrap64 ((t381.length : Int) + (t384.length : Int))) = 0 then ((cavillaw15_works.f k).bind fun t387 => (some t387)) else (some false)))) else (some false))) else (some false))) else (some false)))) else (some false))) else (some false))) = some r := H
 have A6 := Aside0.mk A60
 clear A60
 replace H := Option.bind_eq_some_iff.mp H
 obtain ⟨t371, A70, H⟩ := H
 replace H : (if t371 = t369 then ((cavillaw01_Off.f (some t368)).bind fun t372 => (if t372 = t370 then (if (true != (t369 != 0)) = true then (some false) else ((view_File_Node_nil.f t367 a1).bind fun bt373 => (if bt373.1 = 0 then ((view_File_Kid_nil.f t367 a1 a2).bind fun t379 => (if t379 = (-1) then ((view_File_Word_nil.f t367 a1).bind fun t380 => (if t380.toList = ([] : List UInt8) then ((view_File_Words_nil.f k t367 a1).bind fun t381 => ((view_File_Own_nil.f t367 a1).bind fun t384 => (if (wrap64 ((t381.length : Int) + (t384.length : Int))) = 0 then ((cavillaw15_works.f k).bind fun t387 => (some t387)) else (some false)))) else (some false))) else (some false))) else (some false)))) else (some false))) else (some false)) = some r := H
 have A7 := Aside0.mk A70
 clear A70
 by_cases c8 : t371 = t369
 ·rw [if_pos c8] at H
  have c8b0 : (t371 == t369) = true := beq_iff_eq.mpr c8
  have c8b1 : (t371 != t369) = false := bne_eq_false_iff_eq.mpr c8
  clear c8
  replace H := Option.bind_eq_some_iff.mp H
  obtain ⟨t372, A90, H⟩ := H
  replace H : (if t372 = t370 then (if (true != (t369 != 0)) = true then (some false) else ((view_File_Node_nil.f t367 a1).bind fun bt373 => (if bt373.1 = 0 then ((view_File_Kid_nil.f t367 a1 a2).bind fun t379 => (if t379 = (-1) then ((view_File_Word_nil.f t367 a1).bind fun t380 => (if t380.toList = ([] : List UInt8) then ((view_File_Words_nil.f k t367 a1).bind fun t381 => ((view_File_Own_nil.f t367 a1).bind fun t384 => (if (wrap64 ((t381.length : Int) + (t384.length : Int))) = 0 then ((cavillaw15_works.f k).bind fun t387 => (some t387)) else (some false)))) else (some false))) else (some false))) else (some false)))) else (some false)) = some r := H
  have A9 := Aside0.mk A90
  clear A90
  by_cases c10 : t372 = t370
  ·rw [if_pos c10] at H
   have c10b0 : (t372 == t370) = true := beq_iff_eq.mpr c10
   have c10b1 : (t372 != t370) = false := bne_eq_false_iff_eq.mpr c10
   clear c10
   by_cases c11 : (true != (t369 != 0)) = true
   ·rw [if_pos c11] at H
    have c11b0 : (true != (t369 != 0)) = true := c11
    (try (have c11b1 : decide (true = (t369 != 0)) = false := by simpa using c11))
    (try (have c11b2 : (true == (t369 != 0)) = false := by simpa using c11))
    (try (have c11b3 : ((true = (t369 != 0)) = False) := by simpa using c11))
    clear c11
    exact absurd ((Option.some.inj H).trans HRT.out) (by decide)
   ·rw [if_neg c11] at H
    have c11b0 : (true != (t369 != 0)) = false := by simpa using c11
    (try (have c11b1 : decide (true = (t369 != 0)) = true := by simpa using c11))
    (try (have c11b2 : (true == (t369 != 0)) = true := by simpa using c11))
    clear c11
    replace H := Option.bind_eq_some_iff.mp H
    obtain ⟨⟨t373, t374, t375, t376⟩, A120, H⟩ := H
    replace H : (if t373 = 0 then ((view_File_Kid_nil.f t367 a1 a2).bind fun t379 => (if t379 = (-1) then ((view_File_Word_nil.f t367 a1).bind fun t380 => (if t380.toList = ([] : List UInt8) then ((view_File_Words_nil.f k t367 a1).bind fun t381 => ((view_File_Own_nil.f t367 a1).bind fun t384 => (if (wrap64 ((t381.length : Int) + (t384.length : Int))) = 0 then ((cavillaw15_works.f k).bind fun t387 => (some t387)) else (some false)))) else (some false))) else (some false))) else (some false)) = some r := H
    have A12 := Aside0.mk A120
    clear A120
    by_cases c13 : t373 = 0
    ·rw [if_pos c13] at H
     have c13b0 : (t373 == 0) = true := beq_iff_eq.mpr c13
     have c13b1 : (t373 != 0) = false := bne_eq_false_iff_eq.mpr c13
     clear c13
     replace H := Option.bind_eq_some_iff.mp H
     obtain ⟨t379, A140, H⟩ := H
     replace H : (if t379 = (-1) then ((view_File_Word_nil.f t367 a1).bind fun t380 => (if t380.toList = ([] : List UInt8) then ((view_File_Words_nil.f k t367 a1).bind fun t381 => ((view_File_Own_nil.f t367 a1).bind fun t384 => (if (wrap64 ((t381.length : Int) + (t384.length : Int))) = 0 then ((cavillaw15_works.f k).bind fun t387 => (some t387)) else (some false)))) else (some false))) else (some false)) = some r := H
     have A14 := Aside0.mk A140
     clear A140
     by_cases c15 : t379 = (-1)
     ·rw [if_pos c15] at H
      have c15b0 : (t379 == (-1)) = true := beq_iff_eq.mpr c15
      have c15b1 : (t379 != (-1)) = false := bne_eq_false_iff_eq.mpr c15
      clear c15
      replace H := Option.bind_eq_some_iff.mp H
      obtain ⟨t380, A160, H⟩ := H
      replace H : (if t380.toList = ([] : List UInt8) then ((view_File_Words_nil.f k t367 a1).bind fun t381 => ((view_File_Own_nil.f t367 a1).bind fun t384 => (if (wrap64 ((t381.length : Int) + (t384.length : Int))) = 0 then ((cavillaw15_works.f k).bind fun t387 => (some t387)) else (some false)))) else (some false)) = some r := H
      have A16 := Aside0.mk A160
      clear A160
      by_cases c17 : t380.toList = ([] : List UInt8)
      ·rw [if_pos c17] at H
       have c17b0 : (t380.toList == ([] : List UInt8)) = true := beq_iff_eq.mpr c17
       have c17b1 : (t380.toList != ([] : List UInt8)) = false := bne_eq_false_iff_eq.mpr c17
       clear c17
       replace H := Option.bind_eq_some_iff.mp H
       obtain ⟨t381, A180, H⟩ := H
       replace H : ((view_File_Own_nil.f t367 a1).bind fun t384 => (if (wrap64 ((t381.length : Int) + (t384.length : Int))) = 0 then ((cavillaw15_works.f k).bind fun t387 => (some t387)) else (some false))) = some r := H
       have A18 := Aside0.mk A180
       clear A180
       replace H := Option.bind_eq_some_iff.mp H
       obtain ⟨t384, A190, H⟩ := H
       replace H : (if (wrap64 ((t381.length : Int) + (t384.length : Int))) = 0 then ((cavillaw15_works.f k).bind fun t387 => (some t387)) else (some false)) = some r := H
       have A19 := Aside0.mk A190
       clear A190
       by_cases c20 : (wrap64 ((t381.length : Int) + (t384.length : Int))) = 0
       ·rw [if_pos c20] at H
        have c20b0 : ((wrap64 ((t381.length : Int) + (t384.length : Int))) == 0) = true := beq_iff_eq.mpr c20
        have c20b1 : ((wrap64 ((t381.length : Int) + (t384.length : Int))) != 0) = false := bne_eq_false_iff_eq.mpr c20
        (try (have c20b2 : ((IntKind.i64.wrap ((t381.length : Int) + (t384.length : Int))) == 0) = true := by simp only [i64_w]; exact beq_iff_eq.mpr c20))
        (try (have c20b3 : ((IntKind.i64.wrap ((t381.length : Int) + (t384.length : Int))) != 0) = false := by simp only [i64_w]; exact bne_eq_false_iff_eq.mpr c20))
        clear c20
        replace H := Option.bind_eq_some_iff.mp H
        obtain ⟨t387, A210, H⟩ := H
        replace H : (some t387) = some r := H
        have A21 := Aside0.mk A210
        clear A210
        obtain rfl := Option.some.inj H
        go_enter Tryd.func9, Tryd.ntmps9
        go_wp2_with (first | ((with_reducible refine gate_dst (N := 3) rfl ?_); (try (refine gate_guard (by rfl) ?_; dsimp only)); refine box_event ?hg (N := 3) ?hd (cs := #[.slice A0_0 l0_0.length c0_0, .slice A0_1 l0_1.length c0_1, .slice A0_2 l0_2.length c0_2]) (t := 68) ?hr ?_; (case hd => rfl); (case hg => rfl); (case hr => first | (go_simp; done) | (go_simp; rfl)); intro gb357 hg w22 hbox hb; have n0_ := Aside0.mk (below_step (go_b HB.out) hb); have n1_ := Aside0.mk (hbox); have n2_ := Aside0.mk ((by rw [hg]; exact (below_size (go_b HB.out)) : w.heap.size ≤ gb357)); have n3_ := n2_; clear HB; have HB := n0_; have BK357 := n1_; have GW357 := n2_; have GE357 := n3_; clear n0_ n1_ n2_ n3_; clear hb hbox hg; have hcz23_0 : w22.cell? ⟨gb357, 0, none⟩ = some (.slice A0_0 l0_0.length c0_0) := (blk_cell BK357.out 0).trans rfl; have hcz23_1 : w22.cell? ⟨gb357, 1, none⟩ = some (.slice A0_1 l0_1.length c0_1) := (blk_cell BK357.out 1).trans rfl; have hcz23_2 : w22.cell? ⟨gb357, 2, none⟩ = some (.slice A0_2 l0_2.length c0_2) := (blk_cell BK357.out 2).trans rfl; have hfz23_0 := blk_frozen BK357.out 0; have hfz23_1 := blk_frozen BK357.out 1; have hfz23_2 := blk_frozen BK357.out 2) | ((with_reducible refine gate_callee (f := 38) rfl ?_); refine goesL_ (some 19) rfl rfl Tryd.func38 (by kernel_rfl) rfl #[.agg #[.slice A0_0 l0_0.length c0_0, .slice A0_1 l0_1.length c0_1, .slice A0_2 l0_2.length c0_2]] rfl (by (try simp only [List.map_toArray, List.map_cons, List.map_nil]); first | done | rfl | (simp only [List.length_drop, List.length_take]; rfl)) ?_; (with_reducible refine (cavillaw15_few.calls k (fun k_ => k_ < w.heap.size) _ _ l0_0 (fun k_ => k_ < w.heap.size) _ _ l0_1 (fun k_ => k_ < w.heap.size) _ _ l0_2 t358 t361 t364 _ ?side1 ?side2 ?side3 A4.out).mono ?_); (case side1 => exact Kd.V_mk HC0_0.out (Kd.F_below (Kd.C_F (Kd.heap_int .u8) HR0_0.out) (go_b1 HB.out GE357.out))); (case side2 => exact Kd.V_mk HC0_1.out (Kd.F_below (Kd.C_F k103_heap HR0_1.out) (go_b1 HB.out GE357.out))); (case side3 => exact Kd.V_mk HC0_2.out (Kd.F_below (Kd.C_F k33_heap HR0_2.out) (go_b1 HB.out GE357.out))); rintro e w24 ⟨v359, v362, v365, rfl, ho0, ho1, ho2, hb⟩; refine ⟨_, rfl, ?_⟩; have n0_ := Aside0.mk (Kd.V_lower (Kd.V_mono (ok' := fun k_ => k_ ≠ gb357) ho0 (fun k_ hk_ => Or.elim hk_ (fun hs_ => Or.elim hs_ (fun hs_ => fun e_ => Nat.not_le.2 hs_ (by rw [e_]; exact GW357.out)) (fun hs_ => Or.elim hs_ (fun hs_ => fun e_ => Nat.not_le.2 hs_ (by rw [e_]; exact GW357.out)) (fun hs_ => fun e_ => Nat.not_le.2 hs_ (by rw [e_]; exact GW357.out)))) (fun hn_ => (Kd.freshB (g := gb357) (o := .cells #[.slice A0_0 l0_0.length c0_0, .slice A0_1 l0_1.length c0_1, .slice A0_2 l0_2.length c0_2] 68 (0, 0)) (go_k BK357.out) k_ hn_)))) (below_size (go_b1 HB.out GE357.out))); have n1_ := Aside0.mk (Kd.V_lower (Kd.V_mono (ok' := fun k_ => k_ ≠ gb357) ho1 (fun k_ hk_ => Or.elim hk_ (fun hs_ => Or.elim hs_ (fun hs_ => fun e_ => Nat.not_le.2 hs_ (by rw [e_]; exact GW357.out)) (fun hs_ => Or.elim hs_ (fun hs_ => fun e_ => Nat.not_le.2 hs_ (by rw [e_]; exact GW357.out)) (fun hs_ => fun e_ => Nat.not_le.2 hs_ (by rw [e_]; exact GW357.out)))) (fun hn_ => (Kd.freshB (g := gb357) (o := .cells #[.slice A0_0 l0_0.length c0_0, .slice A0_1 l0_1.length c0_1, .slice A0_2 l0_2.length c0_2] 68 (0, 0)) (go_k BK357.out) k_ hn_)))) (below_size (go_b1 HB.out GE357.out))); have n2_ := Aside0.mk (Kd.V_lower (Kd.V_mono (ok' := fun k_ => k_ ≠ gb357) ho2 (fun k_ hk_ => Or.elim hk_ (fun hs_ => Or.elim hs_ (fun hs_ => fun e_ => Nat.not_le.2 hs_ (by rw [e_]; exact GW357.out)) (fun hs_ => Or.elim hs_ (fun hs_ => fun e_ => Nat.not_le.2 hs_ (by rw [e_]; exact GW357.out)) (fun hs_ => fun e_ => Nat.not_le.2 hs_ (by rw [e_]; exact GW357.out)))) (fun hn_ => (Kd.freshB (g := gb357) (o := .cells #[.slice A0_0 l0_0.length c0_0, .slice A0_1 l0_1.length c0_1, .slice A0_2 l0_2.length c0_2] 68 (0, 0)) (go_k BK357.out) k_ hn_)))) (below_size (go_b1 HB.out GE357.out))); have n3_ := Aside0.mk (blk_below (g := gb357) (o := .cells #[.slice A0_0 l0_0.length c0_0, .slice A0_1 l0_1.length c0_1, .slice A0_2 l0_2.length c0_2] 68 (0, 0)) (go_k BK357.out) hb); have n4_ := Aside0.mk (below_step (go_b1 HB.out GE357.out) hb); clear BK357; clear HB; have HO360 := n0_; have HO363 := n1_; have HO366 := n2_; have BK357 := n3_; have HB := n4_; clear n0_ n1_ n2_ n3_ n4_; (try clear hb); (try clear hb2); (try clear hk); (try clear hi); (try clear ho0); (try clear ho1); (try clear ho2); obtain ⟨Ao25, co25, eo25⟩ := Kd.V_slice HO360.out; subst eo25; have hcz26_0 : w24.cell? ⟨gb357, 0, none⟩ = some (.slice A0_0 l0_0.length c0_0) := (blk_cell BK357.out 0).trans rfl; have hcz26_1 : w24.cell? ⟨gb357, 1, none⟩ = some (.slice A0_1 l0_1.length c0_1) := (blk_cell BK357.out 1).trans rfl; have hcz26_2 : w24.cell? ⟨gb357, 2, none⟩ = some (.slice A0_2 l0_2.length c0_2) := (blk_cell BK357.out 2).trans rfl; have hfz26_0 := blk_frozen BK357.out 0; have hfz26_1 := blk_frozen BK357.out 1; have hfz26_2 := blk_frozen BK357.out 2; obtain ⟨Ao27, co27, eo27⟩ := Kd.V_slice HO363.out; subst eo27; obtain ⟨Ao28, co28, eo28⟩ := Kd.V_slice HO366.out; subst eo28) | ((with_reducible refine gate_callee (f := 39) rfl ?_); refine goesL_ (some 27) rfl rfl Tryd.func39 (by kernel_rfl) rfl #[.slice Ao25 t358.length co25, .slice Ao27 t361.length co27, .agg #[.slice Ao28 t364.length co28]] rfl (by (try simp only [List.map_toArray, List.map_cons, List.map_nil]); first | done | rfl | (simp only [List.length_drop, List.length_take]; rfl)) ?_; (with_reducible refine (view_New_nil.calls k _ _ t358 _ _ t361 _ _ t364 t367 t368 _ ?side1 ?side2 ?side3 ?side4 ?side5 ?side6 A5.out).mono ?_); (case side1 => refine (Kd.V_reads' (e := 5) (base := w.heap.size) (ok := fun k_ => k_ ≠ gb357) (n := t358.length) (c := co25) ?_).2.2; exact (by (with_reducible repeat (first | apply Kd.V_alloc | apply Kd.V_drewN | apply Kd.V_drew)); exact (Kd.V_mono (Kd.V_far (p := ⟨gb357, 2, none⟩) (Kd.V_far (p := ⟨gb357, 1, none⟩) (Kd.V_far (p := ⟨gb357, 0, none⟩) (Kd.V_mono HO360.out (fun k_ hk => (⟨hk, hk⟩ : _ ∧ k_ ≠ gb357))) (fun _ hk => hk.2) (.slice Ao25 t358.length co25)) (fun _ hk => hk.2) (.slice Ao27 t361.length co27)) (fun _ hk => hk.2) (.slice Ao28 t364.length co28)) (fun _ h_ => h_.1)))); (case side2 => exact (Kd.V_reads' HO360.out).2.1); (case side3 => refine (Kd.V_reads' (e := 103) (base := w.heap.size) (ok := fun k_ => k_ ≠ gb357) (n := t361.length) (c := co27) ?_).2.2; exact (by (with_reducible repeat (first | apply Kd.V_alloc | apply Kd.V_drewN | apply Kd.V_drew)); exact (Kd.V_mono (Kd.V_far (p := ⟨gb357, 2, none⟩) (Kd.V_far (p := ⟨gb357, 1, none⟩) (Kd.V_far (p := ⟨gb357, 0, none⟩) (Kd.V_mono HO363.out (fun k_ hk => (⟨hk, hk⟩ : _ ∧ k_ ≠ gb357))) (fun _ hk => hk.2) (.slice Ao25 t358.length co25)) (fun _ hk => hk.2) (.slice Ao27 t361.length co27)) (fun _ hk => hk.2) (.slice Ao28 t364.length co28)) (fun _ h_ => h_.1)))); (case side4 => exact (Kd.V_reads' HO363.out).2.1); (case side5 => refine (Kd.V_reads' (e := 33) (base := w.heap.size) (ok := fun k_ => k_ ≠ gb357) (n := t364.length) (c := co28) ?_).2.2; exact (by (with_reducible repeat (first | apply Kd.V_alloc | apply Kd.V_drewN | apply Kd.V_drew)); exact (Kd.V_mono (Kd.V_far (p := ⟨gb357, 2, none⟩) (Kd.V_far (p := ⟨gb357, 1, none⟩) (Kd.V_far (p := ⟨gb357, 0, none⟩) (Kd.V_mono HO366.out (fun k_ hk => (⟨hk, hk⟩ : _ ∧ k_ ≠ gb357))) (fun _ hk => hk.2) (.slice Ao25 t358.length co25)) (fun _ hk => hk.2) (.slice Ao27 t361.length co27)) (fun _ hk => hk.2) (.slice Ao28 t364.length co28)) (fun _ h_ => h_.1)))); (case side6 => exact (Kd.V_reads' HO366.out).2.1); rintro e w29 ⟨rfl, hb⟩; refine ⟨_, rfl, ?_⟩; have n0_ := Aside0.mk (Kd.V_below (by (with_reducible repeat (first | apply Kd.V_alloc | apply Kd.V_drewN | apply Kd.V_drew)); exact (Kd.V_mono (Kd.V_far (p := ⟨gb357, 2, none⟩) (Kd.V_far (p := ⟨gb357, 1, none⟩) (Kd.V_far (p := ⟨gb357, 0, none⟩) (Kd.V_mono HO360.out (fun k_ hk => (⟨hk, hk⟩ : _ ∧ k_ ≠ gb357))) (fun _ hk => hk.2) (.slice Ao25 t358.length co25)) (fun _ hk => hk.2) (.slice Ao27 t361.length co27)) (fun _ hk => hk.2) (.slice Ao28 t364.length co28)) (fun _ h_ => h_.1))) hb); have n1_ := Aside0.mk (Kd.V_below (by (with_reducible repeat (first | apply Kd.V_alloc | apply Kd.V_drewN | apply Kd.V_drew)); exact (Kd.V_mono (Kd.V_far (p := ⟨gb357, 2, none⟩) (Kd.V_far (p := ⟨gb357, 1, none⟩) (Kd.V_far (p := ⟨gb357, 0, none⟩) (Kd.V_mono HO363.out (fun k_ hk => (⟨hk, hk⟩ : _ ∧ k_ ≠ gb357))) (fun _ hk => hk.2) (.slice Ao25 t358.length co25)) (fun _ hk => hk.2) (.slice Ao27 t361.length co27)) (fun _ hk => hk.2) (.slice Ao28 t364.length co28)) (fun _ h_ => h_.1))) hb); have n2_ := Aside0.mk (Kd.V_below (by (with_reducible repeat (first | apply Kd.V_alloc | apply Kd.V_drewN | apply Kd.V_drew)); exact (Kd.V_mono (Kd.V_far (p := ⟨gb357, 2, none⟩) (Kd.V_far (p := ⟨gb357, 1, none⟩) (Kd.V_far (p := ⟨gb357, 0, none⟩) (Kd.V_mono HO366.out (fun k_ hk => (⟨hk, hk⟩ : _ ∧ k_ ≠ gb357))) (fun _ hk => hk.2) (.slice Ao25 t358.length co25)) (fun _ hk => hk.2) (.slice Ao27 t361.length co27)) (fun _ hk => hk.2) (.slice Ao28 t364.length co28)) (fun _ h_ => h_.1))) hb); have n3_ := Aside0.mk (blk_below (g := gb357) (o := .cells #[.slice Ao25 t358.length co25, .slice Ao27 t361.length co27, .slice Ao28 t364.length co28] 68 (0, 0)) (by (with_reducible repeat (first | refine blk_drewN ?_ _ | refine blk_drew ?_ | refine blk_alloc ?_ _)); refine blk_put (cs := #[.slice Ao25 t358.length co25, .slice Ao27 t361.length co27, .slice A0_2 l0_2.length c0_2]) ?_ 2 _ rfl; refine blk_put (cs := #[.slice Ao25 t358.length co25, .slice A0_1 l0_1.length c0_1, .slice A0_2 l0_2.length c0_2]) ?_ 1 _ rfl; refine blk_put (cs := #[.slice A0_0 l0_0.length c0_0, .slice A0_1 l0_1.length c0_1, .slice A0_2 l0_2.length c0_2]) ?_ 0 _ rfl; (with_reducible repeat (first | refine blk_drewN ?_ _ | refine blk_drew ?_ | refine blk_alloc ?_ _)); exact BK357.out) hb); have n4_ := Aside0.mk (below_step (go_b1 HB.out GE357.out) hb); clear HO360; clear HO363; clear HO366; clear BK357; clear HB; have HO360 := n0_; have HO363 := n1_; have HO366 := n2_; have BK357 := n3_; have HB := n4_; clear n0_ n1_ n2_ n3_ n4_; (try clear hb); (try clear hb2); (try clear hk); (try clear hi); (try simp only [errW_none, errW_some, erT_no, erV_no, erT_at, erV_at]); have hcz30_0 : w29.cell? ⟨gb357, 0, none⟩ = some (.slice Ao25 t358.length co25) := (blk_cell BK357.out 0).trans rfl; have hcz30_1 : w29.cell? ⟨gb357, 1, none⟩ = some (.slice Ao27 t361.length co27) := (blk_cell BK357.out 1).trans rfl; have hcz30_2 : w29.cell? ⟨gb357, 2, none⟩ = some (.slice Ao28 t364.length co28) := (blk_cell BK357.out 2).trans rfl; have hfz30_0 := blk_frozen BK357.out 0; have hfz30_1 := blk_frozen BK357.out 1; have hfz30_2 := blk_frozen BK357.out 2) | ((with_reducible refine gate_callee (f := 12) rfl ?_); refine goesL_ (some 36) rfl rfl Tryd.func12 (by kernel_rfl) rfl #[.agg #[.slice Ao28 t364.length co28], .int .i64 (t361.length : Int)] rfl (by (try simp only [List.map_toArray, List.map_cons, List.map_nil]); first | done | rfl | (simp only [List.length_drop, List.length_take]; rfl)) ?_; (with_reducible refine (cavilref13_Check.calls k _ _ t364 (t361.length : Int) t369 t370 _ ?side1 ?side2 A6.out).mono ?_); (case side1 => repeat (first | exact (Kd.V_reads' HO366.out).2.2 | (with_reducible refine Kd.C_alloc ?_ _) | (with_reducible refine Kd.C_drewN ?_ _) | (with_reducible refine Kd.C_drew ?_))); (case side2 => exact (Kd.V_reads' HO366.out).2.1); rintro e w31 ⟨rfl, hb⟩; refine ⟨_, rfl, ?_⟩; have n0_ := Aside0.mk (Kd.V_below (go_V HO360.out) hb); have n1_ := Aside0.mk (Kd.V_below (go_V HO363.out) hb); have n2_ := Aside0.mk (Kd.V_below (go_V HO366.out) hb); have n3_ := Aside0.mk (blk_below (g := gb357) (o := .cells #[.slice Ao25 t358.length co25, .slice Ao27 t361.length co27, .slice Ao28 t364.length co28] 68 (0, 0)) (go_k BK357.out) hb); have n4_ := Aside0.mk (below_step (go_b1 HB.out GE357.out) hb); clear HO360; clear HO363; clear HO366; clear BK357; clear HB; have HO360 := n0_; have HO363 := n1_; have HO366 := n2_; have BK357 := n3_; have HB := n4_; clear n0_ n1_ n2_ n3_ n4_; (try clear hb); (try clear hb2); (try clear hk); (try clear hi); have CA7 := fun W => cavillaw01_Code.calls k (some t368) t371 W A7.out; try simp only [errW_none, errW_some, erT_no, erV_no, erT_at, erV_at] at CA7) | (go_at_call 13; (with_reducible refine (CA7 _).mono ?_); rintro e w32 ⟨rfl, hb⟩; have n0_ := Aside0.mk (Kd.V_below (go_V HO360.out) hb); have n1_ := Aside0.mk (Kd.V_below (go_V HO363.out) hb); have n2_ := Aside0.mk (Kd.V_below (go_V HO366.out) hb); have n3_ := Aside0.mk (blk_below (g := gb357) (o := .cells #[.slice Ao25 t358.length co25, .slice Ao27 t361.length co27, .slice Ao28 t364.length co28] 68 (0, 0)) (go_k BK357.out) hb); have n4_ := Aside0.mk (below_step (go_b1 HB.out GE357.out) hb); clear HO360; clear HO363; clear HO366; clear BK357; clear HB; have HO360 := n0_; have HO363 := n1_; have HO366 := n2_; have BK357 := n3_; have HB := n4_; clear n0_ n1_ n2_ n3_ n4_; (try clear hb); (try clear hb2); (try clear hk); (try clear hi); have CA9 := fun W hg_ => cavillaw01_Off.calls (some t368) t372 W hg_ A9.out; try simp only [errW_none, errW_some, erT_no, erV_no, erT_at, erV_at] at CA9) | (go_at_call 14; (with_reducible refine (CA9 _ ?sideg).mono ?_); (case sideg => repeat (first | exact (GL_below HG.out HB.out) | exact HG.out | (with_reducible refine GL_alloc ?_ _) | (with_reducible refine GL_drewN ?_ _) | (with_reducible refine GL_drew ?_))); rintro e w33 ⟨rfl, hb⟩; have n0_ := Aside0.mk (Kd.V_below (go_V HO360.out) hb); have n1_ := Aside0.mk (Kd.V_below (go_V HO363.out) hb); have n2_ := Aside0.mk (Kd.V_below (go_V HO366.out) hb); have n3_ := Aside0.mk (blk_below (g := gb357) (o := .cells #[.slice Ao25 t358.length co25, .slice Ao27 t361.length co27, .slice Ao28 t364.length co28] 68 (0, 0)) (go_k BK357.out) hb); have n4_ := Aside0.mk (below_step (go_b1 HB.out GE357.out) hb); clear HO360; clear HO363; clear HO366; clear BK357; clear HB; have HO360 := n0_; have HO363 := n1_; have HO366 := n2_; have BK357 := n3_; have HB := n4_; clear n0_ n1_ n2_ n3_ n4_; (try clear hb); (try clear hb2); (try clear hk); (try clear hi)) | ((with_reducible refine gate_callee (f := 40) rfl ?_); refine goesL_ (some 60) rfl rfl Tryd.func40 (by kernel_rfl) rfl #[.pointer none, .int .i64 a1] rfl (by (try simp only [List.map_toArray, List.map_cons, List.map_nil]); first | done | rfl | (simp only [List.length_drop, List.length_take]; rfl)) ?_; (with_reducible refine (view_File_Node_nil.calls t367 a1 t373 t374 t375 t376 _ A12.out).mono ?_); rintro e w34 ⟨v377, rfl, ho0, hb⟩; refine ⟨_, rfl, ?_⟩; have n0_ := Aside0.mk (Kd.V_elder' (go_V HO360.out) (Kd.R_base ho0) hb); have n1_ := Aside0.mk (Kd.V_elder' (go_V HO363.out) (Kd.R_base ho0) hb); have n2_ := Aside0.mk (Kd.V_elder' (go_V HO366.out) (Kd.R_base ho0) hb); have n3_ := Aside0.mk (Kd.R_lower ho0 (below_size (go_b1 HB.out GE357.out))); have n4_ := Aside0.mk (blk_below (g := gb357) (o := .cells #[.slice Ao25 t358.length co25, .slice Ao27 t361.length co27, .slice Ao28 t364.length co28] 68 (0, 0)) (go_k BK357.out) hb); have n5_ := Aside0.mk (below_step (go_b1 HB.out GE357.out) hb); clear HO360; clear HO363; clear HO366; clear BK357; clear HB; have HO360 := n0_; have HO363 := n1_; have HO366 := n2_; have HO378 := n3_; have BK357 := n4_; have HB := n5_; clear n0_ n1_ n2_ n3_ n4_ n5_; (try clear hb); (try clear hb2); (try clear hk); (try clear hi); (try clear ho0)) | (go_at_call 41; (with_reducible refine (view_File_Kid_nil.calls t367 a1 a2 t379 _ A14.out).mono ?_); rintro e w35 ⟨rfl, hb⟩; have n0_ := Aside0.mk (Kd.V_below (go_V HO360.out) hb); have n1_ := Aside0.mk (Kd.V_below (go_V HO363.out) hb); have n2_ := Aside0.mk (Kd.V_below (go_V HO366.out) hb); have n3_ := Aside0.mk (Kd.R_below (go_R HO378.out) hb); have n4_ := Aside0.mk (blk_below (g := gb357) (o := .cells #[.slice Ao25 t358.length co25, .slice Ao27 t361.length co27, .slice Ao28 t364.length co28] 68 (0, 0)) (go_k BK357.out) hb); have n5_ := Aside0.mk (below_step (go_b1 HB.out GE357.out) hb); clear HO360; clear HO363; clear HO366; clear HO378; clear BK357; clear HB; have HO360 := n0_; have HO363 := n1_; have HO366 := n2_; have HO378 := n3_; have BK357 := n4_; have HB := n5_; clear n0_ n1_ n2_ n3_ n4_ n5_; (try clear hb); (try clear hb2); (try clear hk); (try clear hi)) | (go_at_call 42; (with_reducible refine (view_File_Word_nil.calls t367 a1 t380 _ A16.out).mono ?_); rintro e w36 ⟨rfl, hb⟩; have n0_ := Aside0.mk (Kd.V_below (go_V HO360.out) hb); have n1_ := Aside0.mk (Kd.V_below (go_V HO363.out) hb); have n2_ := Aside0.mk (Kd.V_below (go_V HO366.out) hb); have n3_ := Aside0.mk (Kd.R_below (go_R HO378.out) hb); have n4_ := Aside0.mk (blk_below (g := gb357) (o := .cells #[.slice Ao25 t358.length co25, .slice Ao27 t361.length co27, .slice Ao28 t364.length co28] 68 (0, 0)) (go_k BK357.out) hb); have n5_ := Aside0.mk (below_step (go_b1 HB.out GE357.out) hb); clear HO360; clear HO363; clear HO366; clear HO378; clear BK357; clear HB; have HO360 := n0_; have HO363 := n1_; have HO366 := n2_; have HO378 := n3_; have BK357 := n4_; have HB := n5_; clear n0_ n1_ n2_ n3_ n4_ n5_; (try clear hb); (try clear hb2); (try clear hk); (try clear hi)) | (go_at_call 43; (with_reducible refine (view_File_Words_nil.calls k t367 a1 t381 _ A18.out).mono ?_); rintro e w37 ⟨v382, rfl, ho0, hb⟩; have n0_ := Aside0.mk (Kd.V_elder' (go_V HO360.out) (Kd.R_base ho0) hb); have n1_ := Aside0.mk (Kd.V_elder' (go_V HO363.out) (Kd.R_base ho0) hb); have n2_ := Aside0.mk (Kd.V_elder' (go_V HO366.out) (Kd.R_base ho0) hb); have n3_ := Aside0.mk (Kd.R_below (go_R HO378.out) hb); have n4_ := Aside0.mk (Kd.R_lower ho0 (below_size (go_b1 HB.out GE357.out))); have n5_ := Aside0.mk (blk_below (g := gb357) (o := .cells #[.slice Ao25 t358.length co25, .slice Ao27 t361.length co27, .slice Ao28 t364.length co28] 68 (0, 0)) (go_k BK357.out) hb); have n6_ := Aside0.mk (below_step (go_b1 HB.out GE357.out) hb); clear HO360; clear HO363; clear HO366; clear HO378; clear BK357; clear HB; have HO360 := n0_; have HO363 := n1_; have HO366 := n2_; have HO378 := n3_; have HO383 := n4_; have BK357 := n5_; have HB := n6_; clear n0_ n1_ n2_ n3_ n4_ n5_ n6_; (try clear hb); (try clear hb2); (try clear hk); (try clear hi); (try clear ho0); obtain ⟨Ao38, co38, eo38⟩ := Kd.R_slice HO383.out; subst eo38) | (go_at_call 44; (with_reducible refine (view_File_Own_nil.calls t367 a1 t384 _ A19.out).mono ?_); rintro e w39 ⟨v385, rfl, ho0, hb⟩; have n0_ := Aside0.mk (Kd.V_elder' (go_V HO360.out) (Kd.R_base ho0) hb); have n1_ := Aside0.mk (Kd.V_elder' (go_V HO363.out) (Kd.R_base ho0) hb); have n2_ := Aside0.mk (Kd.V_elder' (go_V HO366.out) (Kd.R_base ho0) hb); have n3_ := Aside0.mk (Kd.R_elder' (go_R HO378.out) (Kd.R_base ho0) hb); have n4_ := Aside0.mk (Kd.R_below (go_R HO383.out) hb); have n5_ := Aside0.mk (Kd.R_lower (Kd.R_new' ho0 (Kd.R_lt (go_R HO378.out))) (below_size (go_b1 HB.out GE357.out))); have n6_ := Aside0.mk (blk_below (g := gb357) (o := .cells #[.slice Ao25 t358.length co25, .slice Ao27 t361.length co27, .slice Ao28 t364.length co28] 68 (0, 0)) (go_k BK357.out) hb); have n7_ := Aside0.mk (below_step (go_b1 HB.out GE357.out) hb); clear HO360; clear HO363; clear HO366; clear HO378; clear HO383; clear BK357; clear HB; have HO360 := n0_; have HO363 := n1_; have HO366 := n2_; have HO378 := n3_; have HO383 := n4_; have HO386 := n5_; have BK357 := n6_; have HB := n7_; clear n0_ n1_ n2_ n3_ n4_ n5_ n6_ n7_; (try clear hb); (try clear hb2); (try clear hk); (try clear hi); (try clear ho0); obtain ⟨Ao40, co40, eo40⟩ := Kd.R_slice HO386.out; subst eo40) | (go_at_call 45; (with_reducible refine (cavillaw15_works.calls k  t387 _ A21.out).mono ?_); rintro e w41 ⟨rfl, hb⟩; have n0_ := Aside0.mk (Kd.V_below (go_V HO360.out) hb); have n1_ := Aside0.mk (Kd.V_below (go_V HO363.out) hb); have n2_ := Aside0.mk (Kd.V_below (go_V HO366.out) hb); have n3_ := Aside0.mk (Kd.R_below (go_R HO378.out) hb); have n4_ := Aside0.mk (Kd.R_below (go_R HO383.out) hb); have n5_ := Aside0.mk (Kd.R_below (go_R HO386.out) hb); have n6_ := Aside0.mk (blk_below (g := gb357) (o := .cells #[.slice Ao25 t358.length co25, .slice Ao27 t361.length co27, .slice Ao28 t364.length co28] 68 (0, 0)) (go_k BK357.out) hb); have n7_ := Aside0.mk (below_step (go_b1 HB.out GE357.out) hb); clear HO360; clear HO363; clear HO366; clear HO378; clear HO383; clear HO386; clear BK357; clear HB; have HO360 := n0_; have HO363 := n1_; have HO366 := n2_; have HO378 := n3_; have HO383 := n4_; have HO386 := n5_; have BK357 := n6_; have HB := n7_; clear n0_ n1_ n2_ n3_ n4_ n5_ n6_ n7_; (try clear hb); (try clear hb2); (try clear hk); (try clear hi)))
        go_ret
        exact ⟨by first | rfl | (simp [*, errW_none, errW_some, erT_no, erV_no, erT_at, erV_at] <;> rfl), by repeat (first | (with_reducible first | exact HB.out | apply below_alloc | apply pw_below_drewN | apply below_drew1 | refine below_set ?_ GE357.out) | exact HB.out)⟩
       ·rw [if_neg c20] at H
        have c20b0 : ((wrap64 ((t381.length : Int) + (t384.length : Int))) == 0) = false := beq_eq_false_iff_ne.mpr c20
        have c20b1 : ((wrap64 ((t381.length : Int) + (t384.length : Int))) != 0) = true := bne_iff_ne.mpr c20
        (try (have c20b2 : ((IntKind.i64.wrap ((t381.length : Int) + (t384.length : Int))) == 0) = false := by simp only [i64_w]; exact beq_eq_false_iff_ne.mpr c20))
        (try (have c20b3 : ((IntKind.i64.wrap ((t381.length : Int) + (t384.length : Int))) != 0) = true := by simp only [i64_w]; exact bne_iff_ne.mpr c20))
        exact absurd ((Option.some.inj H).trans HRT.out) (by decide)
      ·rw [if_neg c17] at H
       have c17b0 : (t380.toList == ([] : List UInt8)) = false := beq_eq_false_iff_ne.mpr c17
       have c17b1 : (t380.toList != ([] : List UInt8)) = true := bne_iff_ne.mpr c17
       exact absurd ((Option.some.inj H).trans HRT.out) (by decide)
     ·rw [if_neg c15] at H
      have c15b0 : (t379 == (-1)) = false := beq_eq_false_iff_ne.mpr c15
      have c15b1 : (t379 != (-1)) = true := bne_iff_ne.mpr c15
      exact absurd ((Option.some.inj H).trans HRT.out) (by decide)
    ·rw [if_neg c13] at H
     have c13b0 : (t373 == 0) = false := beq_eq_false_iff_ne.mpr c13
     have c13b1 : (t373 != 0) = true := bne_iff_ne.mpr c13
     exact absurd ((Option.some.inj H).trans HRT.out) (by decide)
  ·rw [if_neg c10] at H
   have c10b0 : (t372 == t370) = false := beq_eq_false_iff_ne.mpr c10
   have c10b1 : (t372 != t370) = true := bne_iff_ne.mpr c10
   exact absurd ((Option.some.inj H).trans HRT.out) (by decide)
 ·rw [if_neg c8] at H
  have c8b0 : (t371 == t369) = false := beq_eq_false_iff_ne.mpr c8
  have c8b1 : (t371 != t369) = true := bne_iff_ne.mpr c8
  exact absurd ((Option.some.inj H).trans HRT.out) (by decide)

end Go.Proofs.YtnpgadfoohjlnaaDoor.QV
