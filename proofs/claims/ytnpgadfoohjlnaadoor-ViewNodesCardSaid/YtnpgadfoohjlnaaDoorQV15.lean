/- Where a Lean function of this text answers, the Go function of its name comes to that answer: no other condition. Written by a program of this session out of the translation; Lean checks it. -/
import Derived.Test.YtnpgadfoohjlnaaDoorQV0
import Derived.Test.YtnpgadfoohjlnaaDoorQV3
import Derived.Test.YtnpgadfoohjlnaaDoorQV4
import Derived.Test.YtnpgadfoohjlnaaDoorQV6
import Derived.Test.YtnpgadfoohjlnaaDoorQV7
import Derived.Test.YtnpgadfoohjlnaaDoorQV8
import Derived.Test.YtnpgadfoohjlnaaDoorQV9
import Derived.Test.YtnpgadfoohjlnaaDoorQV12
import Derived.Test.YtnpgadfoohjlnaaDoorQV14
namespace Go.Proofs.YtnpgadfoohjlnaaDoor.QV
open Go.RowKit Go.Proofs.YtnpgadfoohjlnaaDoorW.PrintWords Go.Proofs.YtnpgadfoohjlnaaDoorW.PrintLast Go.Proofs.YtnpgadfoohjlnaaDoorW.PrintMore Go.Proofs.YtnpgadfoohjlnaaDoorW.PrintX
attribute [local go_sem] max2_int min2_int max_two min_two max_three min_three max_four min_four   -- for this text's walks alone
set_option linter.unusedVariables false
set_option linter.unusedSimpArgs false

/-! ### cavillaw15_ViewNodes: function 9 -/
mutual
def cavillaw15_ViewNodes.l0 : Nat → Int → List (S100) → List Int → List Int → Int → Int → List Int → List (S103) → List (S33) → Option (Bool)
 | 0, _, _, _, _, _, _, _, _, _ => none
 | k + 1, x1, x7, x11, x12, x130, x131, x310000, x310001, x310002 => if x131 < x130 then (if 0 ≤ x131 then (if x131 < (x11.length : Int) then (if x131 < (x12.length : Int) then (if (rd x11 x131) = (rd x12 x131) then (cavillaw15_ViewNodes.l0 k x1 x7 x11 x12 x130 (wrap64 (x131 + 1)) x310000 x310001 x310002) else (some false)) else (none)) else (none)) else (none)) else ((view_File_Node.f x7 x1).bind fun bt339 => ((view_File_Words.f k x7 x1).bind fun t346 => ((cavilref15_In.f x310002 x1).bind fun t349 => (if t349 = true then (if 0 ≤ x1 then (if x1 < (x310002.length : Int) then (if bt339.1 = ((rd_T33 x310002 x1).f0) then (if bt339.2.1 = ((rd_T33 x310002 x1).f1) then (if bt339.2.2.1 = ((rd_T33 x310002 x1).f2) then (if (bt339.2.2.2.length : Int) = (((rd_T33 x310002 x1).f3).length : Int) then (if (t346.length : Int) = (((rd_T33 x310002 x1).f3).length : Int) then (cavillaw15_ViewNodes.l1 k t346 (t346.length : Int) 0 x310000 x310001 x310002 ((rd_T33 x310002 x1).f0) ((rd_T33 x310002 x1).f1) ((rd_T33 x310002 x1).f2) ((rd_T33 x310002 x1).f3)) else (some false)) else (some false)) else (some false)) else (some false)) else (some false)) else (none)) else (none)) else (if bt339.1 = 0 then (if (wrap64 ((bt339.2.2.2.length : Int) + (t346.length : Int))) = 0 then (if bt339.2.2.1 = 0 then ((cavillaw15_works.f k).bind fun t356 => (some t356)) else (some false)) else (some false)) else (some false))))))
def cavillaw15_ViewNodes.l1 : Nat → List ByteArray → Int → Int → List Int → List (S103) → List (S33) → Int → Int → Int → List Int → Option (Bool)
 | 0, _, _, _, _, _, _, _, _, _, _ => none
 | k + 1, x15, x218, x219, x310000, x310001, x310002, x352000, x352001, x352002, x352003 => if x219 < x218 then (if 0 ≤ x219 then (if x219 < (x15.length : Int) then (if x219 < (x352003.length : Int) then ((cavilref15_Word.f k x310000 x310001 x310002 (rd x352003 x219)).bind fun t354 => (if (rdOf ByteArray.empty x15 x219).toList = t354.toList then (cavillaw15_ViewNodes.l1 k x15 x218 (wrap64 (x219 + 1)) x310000 x310001 x310002 x352000 x352001 x352002 x352003) else (some false))) else (none)) else (none)) else (none)) else ((cavillaw15_works.f k).bind fun t355 => (some t355))
end
def cavillaw15_ViewNodes.f (k : Nat) (l0_0 : List Int) (l0_1 : List (S103)) (l0_2 : List (S33)) (a1 : Int) (a2 : Int) : Option (Bool) := (cavillaw15_few.f k l0_0 l0_1 l0_2).bind fun bt310 => ((view_New.f k bt310.1 bt310.2.1 bt310.2.2).bind fun bt319 => ((cavilref13_Check.f k bt310.2.2 (bt310.2.1.length : Int)).bind fun bt323 => ((cavillaw01_Code.f k none).bind fun t325 => (if t325 = bt323.1 then ((cavillaw01_Off.f none).bind fun t326 => (if t326 = bt323.2 then (if (false != (bt323.1 != 0)) = true then (some false) else ((view_File_Own.f bt319.1 a1).bind fun t327 => ((cavilref15_Own.f k bt310.2.2 a1).bind fun t330 => (if (t327.length : Int) = (t330.length : Int) then ((view_File_Kid.f bt319.1 a1 a2).bind fun t333 => ((cavilref15_Kid.f bt310.2.2 a1 a2).bind fun t334 => (if t333 = t334 then ((view_File_Word.f bt319.1 a1).bind fun t335 => ((cavilref15_Word.f k bt310.1 bt310.2.1 bt310.2.2 a1).bind fun t336 => (if t335.toList = t336.toList then (cavillaw15_ViewNodes.l0 k a1 bt319.1 t327 t330 (t327.length : Int) 0 bt310.1 bt310.2.1 bt310.2.2) else (some false)))) else (some false)))) else (some false))))) else (some false))) else (some false)))))
theorem cavillaw15_ViewNodes.mono_l : ∀ k, (∀ y0 y1 y2 y3 y4 y5 y6 y7 y8, LeO (cavillaw15_ViewNodes.l0 k y0 y1 y2 y3 y4 y5 y6 y7 y8) (cavillaw15_ViewNodes.l0 (k + 1) y0 y1 y2 y3 y4 y5 y6 y7 y8)) ∧ (∀ y0 y1 y2 y3 y4 y5 y6 y7 y8 y9, LeO (cavillaw15_ViewNodes.l1 k y0 y1 y2 y3 y4 y5 y6 y7 y8 y9) (cavillaw15_ViewNodes.l1 (k + 1) y0 y1 y2 y3 y4 y5 y6 y7 y8 y9))
 | 0 => ⟨fun _ _ _ _ _ _ _ _ _ r h => by simp [cavillaw15_ViewNodes.l0] at h, fun _ _ _ _ _ _ _ _ _ _ r h => by simp [cavillaw15_ViewNodes.l1] at h⟩
 | k + 1 => by
  obtain ⟨ih0, ih1⟩ := cavillaw15_ViewNodes.mono_l k
  refine ⟨?_, ?_⟩
  ·intro y0 y1 y2 y3 y4 y5 y6 y7 y8
   unfold cavillaw15_ViewNodes.l0
   repeat' first
   | (with_reducible exact ih0 _ _ _ _ _ _ _ _ _)
   | (with_reducible exact ih1 _ _ _ _ _ _ _ _ _ _)
   | (with_reducible exact cavillaw01_Code.mono _ _)
   | (with_reducible exact cavillaw15_few.mono _ _ _ _)
   | (with_reducible exact cavillaw15_works.mono _)
   | (with_reducible exact cavilref13_Check.mono _ _ _)
   | (with_reducible exact cavilref15_Own.mono _ _ _)
   | (with_reducible exact cavilref15_Word.mono _ _ _ _ _)
   | (with_reducible exact view_File_Words.mono _ _ _)
   | (with_reducible exact view_New.mono _ _ _ _)
   | (with_reducible exact LeO.refl _)
   | (with_reducible exact LeO.none _)
   | (with_reducible refine LeO.ite ?_ ?_)
   | (with_reducible refine LeO.bind ?_ (fun _ => ?_))
   | exact ih0 _ _ _ _ _ _ _ _ _
   | exact ih1 _ _ _ _ _ _ _ _ _ _
   | exact cavillaw01_Code.mono _ _
   | exact cavillaw15_few.mono _ _ _ _
   | exact cavillaw15_works.mono _
   | exact cavilref13_Check.mono _ _ _
   | exact cavilref15_Own.mono _ _ _
   | exact cavilref15_Word.mono _ _ _ _ _
   | exact view_File_Words.mono _ _ _
   | exact view_New.mono _ _ _ _
   | exact LeO.none _
   | refine LeO.ite ?_ ?_
   | refine LeO.bind ?_ (fun _ => ?_)
  ·intro y0 y1 y2 y3 y4 y5 y6 y7 y8 y9
   unfold cavillaw15_ViewNodes.l1
   repeat' first
   | (with_reducible exact ih0 _ _ _ _ _ _ _ _ _)
   | (with_reducible exact ih1 _ _ _ _ _ _ _ _ _ _)
   | (with_reducible exact cavillaw01_Code.mono _ _)
   | (with_reducible exact cavillaw15_few.mono _ _ _ _)
   | (with_reducible exact cavillaw15_works.mono _)
   | (with_reducible exact cavilref13_Check.mono _ _ _)
   | (with_reducible exact cavilref15_Own.mono _ _ _)
   | (with_reducible exact cavilref15_Word.mono _ _ _ _ _)
   | (with_reducible exact view_File_Words.mono _ _ _)
   | (with_reducible exact view_New.mono _ _ _ _)
   | (with_reducible exact LeO.refl _)
   | (with_reducible exact LeO.none _)
   | (with_reducible refine LeO.ite ?_ ?_)
   | (with_reducible refine LeO.bind ?_ (fun _ => ?_))
   | exact ih0 _ _ _ _ _ _ _ _ _
   | exact ih1 _ _ _ _ _ _ _ _ _ _
   | exact cavillaw01_Code.mono _ _
   | exact cavillaw15_few.mono _ _ _ _
   | exact cavillaw15_works.mono _
   | exact cavilref13_Check.mono _ _ _
   | exact cavilref15_Own.mono _ _ _
   | exact cavilref15_Word.mono _ _ _ _ _
   | exact view_File_Words.mono _ _ _
   | exact view_New.mono _ _ _ _
   | exact LeO.none _
   | refine LeO.ite ?_ ?_
   | refine LeO.bind ?_ (fun _ => ?_)
theorem cavillaw15_ViewNodes.mono : ∀ a0 a1 a2 a3 a4 k, LeO (cavillaw15_ViewNodes.f k a0 a1 a2 a3 a4) (cavillaw15_ViewNodes.f (k + 1) a0 a1 a2 a3 a4) := by
 intro a0 a1 a2 a3 a4 k
 obtain ⟨ih0, ih1⟩ := cavillaw15_ViewNodes.mono_l k
 unfold cavillaw15_ViewNodes.f
 repeat' first
   | (with_reducible exact ih0 _ _ _ _ _ _ _ _ _)
   | (with_reducible exact ih1 _ _ _ _ _ _ _ _ _ _)
   | (with_reducible exact cavillaw01_Code.mono _ _)
   | (with_reducible exact cavillaw15_few.mono _ _ _ _)
   | (with_reducible exact cavillaw15_works.mono _)
   | (with_reducible exact cavilref13_Check.mono _ _ _)
   | (with_reducible exact cavilref15_Own.mono _ _ _)
   | (with_reducible exact cavilref15_Word.mono _ _ _ _ _)
   | (with_reducible exact view_File_Words.mono _ _ _)
   | (with_reducible exact view_New.mono _ _ _ _)
   | (with_reducible exact LeO.refl _)
   | (with_reducible exact LeO.none _)
   | (with_reducible refine LeO.ite ?_ ?_)
   | (with_reducible refine LeO.bind ?_ (fun _ => ?_))
   | exact ih0 _ _ _ _ _ _ _ _ _
   | exact ih1 _ _ _ _ _ _ _ _ _ _
   | exact cavillaw01_Code.mono _ _
   | exact cavillaw15_few.mono _ _ _ _
   | exact cavillaw15_works.mono _
   | exact cavilref13_Check.mono _ _ _
   | exact cavilref15_Own.mono _ _ _
   | exact cavilref15_Word.mono _ _ _ _ _
   | exact view_File_Words.mono _ _ _
   | exact view_New.mono _ _ _ _
   | exact LeO.none _
   | refine LeO.ite ?_ ?_
   | refine LeO.bind ?_ (fun _ => ?_)
def cavillaw15_ViewNodes.T8 : Bool × List (List Nat × List Nat) := (true, [([], []), ([], []), ([0, 1], [0, 1]), ([], []), ([3], [3]), ([], []), ([4, 5, 2], [4, 5]), ([2, 6, 0, 1, 2], [2]), ([6, 7, 0, 1, 2, 3, 4, 5, 6, 7], [6])])
def cavillaw15_ViewNodes.B8 : List Nat := [0, 0, 3, 0, 8, 0, 63, 127, 255]
theorem cavillaw15_ViewNodes.tab8 : rtab .any (opsOf Tryd.f9 8) = cavillaw15_ViewNodes.T8 := by kernel_rfl
theorem cavillaw15_ViewNodes.bits8 : waitsOk cavillaw15_ViewNodes.T8.2 cavillaw15_ViewNodes.B8 = true := by kernel_rfl
def cavillaw15_ViewNodes.T9 : Bool × List (List Nat × List Nat) := (true, [([], []), ([0], [0]), ([], []), ([2], [2]), ([1, 3], [1, 3]), ([4], [4]), ([5], [5]), ([5], [5]), ([5], [5]), ([6, 7, 8, 5, 5], [5, 6, 7, 8]), ([5], [5]), ([10, 5], [5, 10]), ([5], [5]), ([5], [5]), ([11, 12, 13, 9, 5], [5, 11, 12, 13]), ([9, 14, 5], [5, 9, 14]), ([5, 15], [5, 15]), ([16, 14], [16]), ([17], [17]), ([17], [17]), ([18, 19, 17, 17], [17, 18, 19]), ([17], [17]), ([21, 17], [17, 21]), ([17], [17]), ([23, 17], [17, 23]), ([17], [17]), ([25, 17], [17, 25]), ([17], [17]), ([22, 24, 26, 27, 20, 17], [17, 22, 24, 26, 27]), ([20, 28, 17], [17, 20, 28]), ([17, 29], [17, 29])])
def cavillaw15_ViewNodes.B9 : List Nat := [0, 1, 0, 4, 15, 31, 63, 63, 63, 511, 63, 1087, 63, 63, 16383, 32767, 65535, 131071, 262143, 262143, 1048575, 262143, 2359295, 262143, 8650751, 262143, 33816575, 262143, 268435455, 536870911, 1073741823]
theorem cavillaw15_ViewNodes.tab9 : rtab .any (opsOf Tryd.f9 9) = cavillaw15_ViewNodes.T9 := by kernel_rfl
theorem cavillaw15_ViewNodes.bits9 : waitsOk cavillaw15_ViewNodes.T9.2 cavillaw15_ViewNodes.B9 = true := by kernel_rfl
def cavillaw15_ViewNodes.T14 : Bool × List (List Nat × List Nat) := (true, [([], []), ([], []), ([0, 1], [0, 1]), ([2], [2]), ([], []), ([], []), ([4, 5], [4, 5]), ([6], [6]), ([3, 7], [3, 7])])
def cavillaw15_ViewNodes.B14 : List Nat := [0, 0, 3, 7, 0, 0, 48, 112, 255]
theorem cavillaw15_ViewNodes.tab14 : rtab .any (opsOf Tryd.f9 14) = cavillaw15_ViewNodes.T14 := by kernel_rfl
theorem cavillaw15_ViewNodes.bits14 : waitsOk cavillaw15_ViewNodes.T14.2 cavillaw15_ViewNodes.B14 = true := by kernel_rfl
def cavillaw15_ViewNodes.T27 : Bool × List (List Nat × List Nat) := (true, [([], []), ([], []), ([0, 1], [0, 1]), ([2], [2]), ([], []), ([4], [4]), ([], []), ([6], [6]), ([], []), ([8], [8]), ([], []), ([10], [10]), ([], []), ([11, 12], [11, 12]), ([13], [13]), ([5, 7, 9, 14], [5, 7, 9, 14]), ([3, 15], [3, 15])])
def cavillaw15_ViewNodes.B27 : List Nat := [0, 0, 3, 7, 0, 16, 0, 64, 0, 256, 0, 1024, 0, 7168, 15360, 32752, 65535]
theorem cavillaw15_ViewNodes.tab27 : rtab .any (opsOf Tryd.f9 27) = cavillaw15_ViewNodes.T27 := by kernel_rfl
theorem cavillaw15_ViewNodes.bits27 : waitsOk cavillaw15_ViewNodes.T27.2 cavillaw15_ViewNodes.B27 = true := by kernel_rfl
set_option maxHeartbeats 8000000 in
set_option maxRecDepth 100000 in
theorem cavillaw15_ViewNodes.calls (k : Nat) (A0_0 : Option Addr) (c0_0 : Nat) (l0_0 : List Int) (A0_1 : Option Addr) (c0_1 : Nat) (l0_1 : List (S103)) (A0_2 : Option Addr) (c0_2 : Nat) (l0_2 : List (S33)) (a1 : Int) (a2 : Int) (r : Bool) (w : World) (hG : GL_ w) (hr0_0 : Kd.C (Kd.int .u8) w A0_0 l0_0.length l0_0) (hc0_0 : l0_0.length ≤ c0_0) (hr0_1 : Kd.C k103 w A0_1 l0_1.length l0_1) (hc0_1 : l0_1.length ≤ c0_1) (hr0_2 : Kd.C k33 w A0_2 l0_2.length l0_2) (hc0_2 : l0_2.length ≤ c0_2) (h : cavillaw15_ViewNodes.f k l0_0 l0_1 l0_2 a1 a2 = some r) (hrt : r = true) :
  Calls Tryd.prog 9 #[.agg #[.slice A0_0 l0_0.length c0_0, .slice A0_1 l0_1.length c0_1, .slice A0_2 l0_2.length c0_2], .int .i64 a1, .int .i64 a2] w fun e w' => e = .returned (.bool r) ∧ Below w.heap.size w w' := by
 have HRT := Aside0.mk hrt
 clear hrt
 have hu68 := Tryd.underlying68
 have hu24 := Tryd.underlying24
 have hu33 := Tryd.underlying33
 have hfd33_0 : ∀ (c0_ c1_ c2_ c3_ : Value) (W_ : World), (Instr.field 33 (.agg #[c0_, c1_, c2_, c3_]) 0).run Tryd.prog W_ = .ok (c0_) W_ := fun _ _ _ _ _ => by kernel_rfl
 have HR0_0 := Aside0.mk hr0_0
 have HC0_0 := Aside0.mk hc0_0
 clear hr0_0 hc0_0
 have HR0_1 := Aside0.mk hr0_1
 have HC0_1 := Aside0.mk hc0_1
 clear hr0_1 hc0_1
 have HR0_2 := Aside0.mk hr0_2
 have HC0_2 := Aside0.mk hc0_2
 clear hr0_2 hc0_2
 have HB := Aside0.mk (Below.refl w.heap.size w)
 have HG := Aside0.mk hG
 clear hG
 have H : ((cavillaw15_few.f k l0_0 l0_1 l0_2).bind fun bt310 => ((view_New.f k bt310.1 bt310.2.1 bt310.2.2).bind fun bt319 => ((cavilref13_Check.f k bt310.2.2 (bt310.2.1.length : Int)).bind fun bt323 => ((cavillaw01_Code.f k none).bind fun t325 => (if t325 = bt323.1 then ((cavillaw01_Off.f none).bind fun t326 => (if t326 = bt323.2 then (if (false != (bt323.1 != 0)) = true then (some false) else ((view_File_Own.f bt319.1 a1).bind fun t327 => ((cavilref15_Own.f k bt310.2.2 a1).bind fun t330 => (if (t327.length : Int) = (t330.length : Int) then ((view_File_Kid.f bt319.1 a1 a2).bind fun t333 => ((cavilref15_Kid.f bt310.2.2 a1 a2).bind fun t334 => (if t333 = t334 then ((view_File_Word.f bt319.1 a1).bind fun t335 => ((cavilref15_Word.f k bt310.1 bt310.2.1 bt310.2.2 a1).bind fun t336 => (if t335.toList = t336.toList then (cavillaw15_ViewNodes.l0 k a1 bt319.1 t327 t330 (t327.length : Int) 0 bt310.1 bt310.2.1 bt310.2.2) else (some false)))) else (some false)))) else (some false))))) else (some false))) else (some false)))))) = some r := h
 clear h
 replace H := Option.bind_eq_some_iff.mp H
 obtain ⟨⟨t310, t313, t316⟩, A40, H⟩ := H
 replace H : ((view_New.f k t310 t313 t316).bind fun bt319 => ((cavilref13_Check.f k t316 (t313.length : Int)).bind fun bt323 => ((cavillaw01_Code.f k none).bind fun t325 => (if t325 = bt323.1 then ((cavillaw01_Off.f none).bind fun t326 => (if t326 = bt323.2 then (if (false != (bt323.1 != 0)) = true then (some false) else ((view_File_Own.f bt319.1 a1).bind fun t327 => ((cavilref15_Own.f k t316 a1).bind fun t330 => (if (t327.length : Int) = (t330.length : Int) then ((view_File_Kid.f bt319.1 a1 a2).bind fun t333 => ((cavilref15_Kid.f t316 a1 a2).bind fun t334 => (if t333 = t334 then ((view_File_Word.f bt319.1 a1).bind fun t335 => ((cavilref15_Word.f k t310 t313 t316 a1).bind fun t336 => (if t335.toList = t336.toList then (cavillaw15_ViewNodes.l0 k a1 bt319.1 t327 t330 (t327.length : Int) 0 t310 t313 t316) else (some false)))) else (some false)))) else (some false))))) else (some false))) else (some false))))) = some r := H
 have A4 := Aside0.mk A40
 clear A40
 replace H := Option.bind_eq_some_iff.mp H
 obtain ⟨⟨t319, t322⟩, A50, H⟩ := H
 replace H : ((cavilref13_Check.f k t316 (t313.length : Int)).bind fun bt323 => ((cavillaw01_Code.f k none).bind fun t325 => (if t325 = bt323.1 then ((cavillaw01_Off.f none).bind fun t326 => (if t326 = bt323.2 then (if (false != (bt323.1 != 0)) = true then (some false) else ((view_File_Own.f t319 a1).bind fun t327 => ((cavilref15_Own.f k t316 a1).bind fun t330 => (if (t327.length : Int) = (t330.length : Int) then ((view_File_Kid.f t319 a1 a2).bind fun t333 => ((cavilref15_Kid.f t316 a1 a2).bind fun t334 => (if t333 = t334 then ((view_File_Word.f t319 a1).bind fun t335 => ((cavilref15_Word.f k t310 t313 t316 a1).bind fun t336 => (if t335.toList = t336.toList then (cavillaw15_ViewNodes.l0 k a1 t319 t327 t330 (t327.length : Int) 0 t310 t313 t316) else (some false)))) else (some false)))) else (some false))))) else (some false))) else (some false)))) = some r := H
 have A5 := Aside0.mk A50
 clear A50
 replace H := Option.bind_eq_some_iff.mp H
 obtain ⟨⟨t323, t324⟩, A60, H⟩ := H
 replace H : ((cavillaw01_Code.f k none).bind fun t325 => (if t325 = t323 then ((cavillaw01_Off.f none).bind fun t326 => (if t326 = t324 then (if (false != (t323 != 0)) = true then (some false) else ((view_File_Own.f t319 a1).bind fun t327 => ((cavilref15_Own.f k t316 a1).bind fun t330 => (if (t327.length : Int) = (t330.length : Int) then ((view_File_Kid.f t319 a1 a2).bind fun t333 => ((cavilref15_Kid.f t316 a1 a2).bind fun t334 => (if t333 = t334 then ((view_File_Word.f t319 a1).bind fun t335 => ((cavilref15_Word.f k t310 t313 t316 a1).bind fun t336 => (if t335.toList = t336.toList then (cavillaw15_ViewNodes.l0 k a1 t319 t327 t330 (t327.length : Int) 0 t310 t313 t316) else (some false)))) else (some false)))) else (some false))))) else (some false))) else (some false))) = some r := H
 have A6 := Aside0.mk A60
 clear A60
 replace H := Option.bind_eq_some_iff.mp H
 obtain ⟨t325, A70, H⟩ := H
 replace H : (if t325 = t323 then ((cavillaw01_Off.f none).bind fun t326 => (if t326 = t324 then (if (false != (t323 != 0)) = true then (some false) else ((view_File_Own.f t319 a1).bind fun t327 => ((cavilref15_Own.f k t316 a1).bind fun t330 => (if (t327.length : Int) = (t330.length : Int) then ((view_File_Kid.f t319 a1 a2).bind fun t333 => ((cavilref15_Kid.f t316 a1 a2).bind fun t334 => (if t333 = t334 then ((view_File_Word.f t319 a1).bind fun t335 => ((cavilref15_Word.f k t310 t313 t316 a1).bind fun t336 => (if t335.toList = t336.toList then (cavillaw15_ViewNodes.l0 k a1 t319 t327 t330 (t327.length : Int) 0 t310 t313 t316) else (some false)))) else (some false)))) else (some false))))) else (some false))) else (some false)) = some r := H
 have A7 := Aside0.mk A70
 clear A70
 by_cases c8 : t325 = t323
 ·rw [if_pos c8] at H
  have c8b0 : (t325 == t323) = true := beq_iff_eq.mpr c8
  have c8b1 : (t325 != t323) = false := bne_eq_false_iff_eq.mpr c8
  clear c8
  replace H := Option.bind_eq_some_iff.mp H
  obtain ⟨t326, A90, H⟩ := H
  replace H : (if t326 = t324 then (if (false != (t323 != 0)) = true then (some false) else ((view_File_Own.f t319 a1).bind fun t327 => ((cavilref15_Own.f k t316 a1).bind fun t330 => (if (t327.length : Int) = (t330.length : Int) then ((view_File_Kid.f t319 a1 a2).bind fun t333 => ((cavilref15_Kid.f t316 a1 a2).bind fun t334 => (if t333 = t334 then ((view_File_Word.f t319 a1).bind fun t335 => ((cavilref15_Word.f k t310 t313 t316 a1).bind fun t336 => (if t335.toList = t336.toList then (cavillaw15_ViewNodes.l0 k a1 t319 t327 t330 (t327.length : Int) 0 t310 t313 t316) else (some false)))) else (some false)))) else (some false))))) else (some false)) = some r := H
  have A9 := Aside0.mk A90
  clear A90
  by_cases c10 : t326 = t324
  ·rw [if_pos c10] at H
   have c10b0 : (t326 == t324) = true := beq_iff_eq.mpr c10
   have c10b1 : (t326 != t324) = false := bne_eq_false_iff_eq.mpr c10
   clear c10
   by_cases c11 : (false != (t323 != 0)) = true
   ·rw [if_pos c11] at H
    have c11b0 : (false != (t323 != 0)) = true := c11
    (try (have c11b1 : decide (false = (t323 != 0)) = false := by simpa using c11))
    (try (have c11b2 : (false == (t323 != 0)) = false := by simpa using c11))
    (try (have c11b3 : ((false = (t323 != 0)) = False) := by simpa using c11))
    clear c11
    exact absurd ((Option.some.inj H).trans HRT.out) (by decide)
   ·rw [if_neg c11] at H
    have c11b0 : (false != (t323 != 0)) = false := by simpa using c11
    (try (have c11b1 : decide (false = (t323 != 0)) = true := by simpa using c11))
    (try (have c11b2 : (false == (t323 != 0)) = true := by simpa using c11))
    clear c11
    replace H := Option.bind_eq_some_iff.mp H
    obtain ⟨t327, A120, H⟩ := H
    replace H : ((cavilref15_Own.f k t316 a1).bind fun t330 => (if (t327.length : Int) = (t330.length : Int) then ((view_File_Kid.f t319 a1 a2).bind fun t333 => ((cavilref15_Kid.f t316 a1 a2).bind fun t334 => (if t333 = t334 then ((view_File_Word.f t319 a1).bind fun t335 => ((cavilref15_Word.f k t310 t313 t316 a1).bind fun t336 => (if t335.toList = t336.toList then (cavillaw15_ViewNodes.l0 k a1 t319 t327 t330 (t327.length : Int) 0 t310 t313 t316) else (some false)))) else (some false)))) else (some false))) = some r := H
    have A12 := Aside0.mk A120
    clear A120
    replace H := Option.bind_eq_some_iff.mp H
    obtain ⟨t330, A130, H⟩ := H
    replace H : (if (t327.length : Int) = (t330.length : Int) then ((view_File_Kid.f t319 a1 a2).bind fun t333 => ((cavilref15_Kid.f t316 a1 a2).bind fun t334 => (if t333 = t334 then ((view_File_Word.f t319 a1).bind fun t335 => ((cavilref15_Word.f k t310 t313 t316 a1).bind fun t336 => (if t335.toList = t336.toList then (cavillaw15_ViewNodes.l0 k a1 t319 t327 t330 (t327.length : Int) 0 t310 t313 t316) else (some false)))) else (some false)))) else (some false)) = some r := H
    have A13 := Aside0.mk A130
    clear A130
    by_cases c14 : (t327.length : Int) = (t330.length : Int)
    ·rw [if_pos c14] at H
     have c14b0 : ((t327.length : Int) == (t330.length : Int)) = true := beq_iff_eq.mpr c14
     have c14b1 : ((t327.length : Int) != (t330.length : Int)) = false := bne_eq_false_iff_eq.mpr c14
     have c14b2 : (t327.length == t330.length) = true := by first | simpa using c14 | (simp at c14 ⊢; omega)
     clear c14
     replace H := Option.bind_eq_some_iff.mp H
     obtain ⟨t333, A150, H⟩ := H
     replace H : ((cavilref15_Kid.f t316 a1 a2).bind fun t334 => (if t333 = t334 then ((view_File_Word.f t319 a1).bind fun t335 => ((cavilref15_Word.f k t310 t313 t316 a1).bind fun t336 => (if t335.toList = t336.toList then (cavillaw15_ViewNodes.l0 k a1 t319 t327 t330 (t327.length : Int) 0 t310 t313 t316) else (some false)))) else (some false))) = some r := H
     have A15 := Aside0.mk A150
     clear A150
     replace H := Option.bind_eq_some_iff.mp H
     obtain ⟨t334, A160, H⟩ := H
     replace H : (if t333 = t334 then ((view_File_Word.f t319 a1).bind fun t335 => ((cavilref15_Word.f k t310 t313 t316 a1).bind fun t336 => (if t335.toList = t336.toList then (cavillaw15_ViewNodes.l0 k a1 t319 t327 t330 (t327.length : Int) 0 t310 t313 t316) else (some false)))) else (some false)) = some r := H
     have A16 := Aside0.mk A160
     clear A160
     by_cases c17 : t333 = t334
     ·rw [if_pos c17] at H
      have c17b0 : (t333 == t334) = true := beq_iff_eq.mpr c17
      have c17b1 : (t333 != t334) = false := bne_eq_false_iff_eq.mpr c17
      clear c17
      replace H := Option.bind_eq_some_iff.mp H
      obtain ⟨t335, A180, H⟩ := H
      replace H : ((cavilref15_Word.f k t310 t313 t316 a1).bind fun t336 => (if t335.toList = t336.toList then (cavillaw15_ViewNodes.l0 k a1 t319 t327 t330 (t327.length : Int) 0 t310 t313 t316) else (some false))) = some r := H
      have A18 := Aside0.mk A180
      clear A180
      replace H := Option.bind_eq_some_iff.mp H
      obtain ⟨t336, A190, H⟩ := H
      replace H : (if t335.toList = t336.toList then (cavillaw15_ViewNodes.l0 k a1 t319 t327 t330 (t327.length : Int) 0 t310 t313 t316) else (some false)) = some r := H
      have A19 := Aside0.mk A190
      clear A190
      by_cases c20 : t335.toList = t336.toList
      ·rw [if_pos c20] at H
       have c20b0 : (t335.toList == t336.toList) = true := beq_iff_eq.mpr c20
       have c20b1 : (t335.toList != t336.toList) = false := bne_eq_false_iff_eq.mpr c20
       clear c20
       have H' := Aside0.mk H
       clear H
       go_enter Tryd.func9, Tryd.ntmps9
       try go_wp2_with (first | ((with_reducible refine gate_dst (N := 3) rfl ?_); (try (refine gate_guard (by rfl) ?_; dsimp only)); refine box_event ?hg (N := 3) ?hd (cs := #[.slice A0_0 l0_0.length c0_0, .slice A0_1 l0_1.length c0_1, .slice A0_2 l0_2.length c0_2]) (t := 68) ?hr ?_; (case hd => rfl); (case hg => rfl); (case hr => first | (go_simp; done) | (go_simp; rfl)); intro gb309 hg w21 hbox hb; have n0_ := Aside0.mk (below_step (go_b HB.out) hb); have n1_ := Aside0.mk (hbox); have n2_ := Aside0.mk ((by rw [hg]; exact (below_size (go_b HB.out)) : w.heap.size ≤ gb309)); have n3_ := n2_; clear HB; have HB := n0_; have BK309 := n1_; have GW309 := n2_; have GE309 := n3_; clear n0_ n1_ n2_ n3_; clear hb hbox hg; have hcz22_0 : w21.cell? ⟨gb309, 0, none⟩ = some (.slice A0_0 l0_0.length c0_0) := (blk_cell BK309.out 0).trans rfl; have hcz22_1 : w21.cell? ⟨gb309, 1, none⟩ = some (.slice A0_1 l0_1.length c0_1) := (blk_cell BK309.out 1).trans rfl; have hcz22_2 : w21.cell? ⟨gb309, 2, none⟩ = some (.slice A0_2 l0_2.length c0_2) := (blk_cell BK309.out 2).trans rfl; have hfz22_0 := blk_frozen BK309.out 0; have hfz22_1 := blk_frozen BK309.out 1; have hfz22_2 := blk_frozen BK309.out 2) | ((with_reducible refine gate_callee (f := 38) rfl ?_); refine goesL_ (some 19) rfl rfl Tryd.func38 (by kernel_rfl) rfl #[.agg #[.slice A0_0 l0_0.length c0_0, .slice A0_1 l0_1.length c0_1, .slice A0_2 l0_2.length c0_2]] rfl (by (try simp only [List.map_toArray, List.map_cons, List.map_nil]); first | done | rfl | (simp only [List.length_drop, List.length_take]; rfl)) ?_; (with_reducible refine (cavillaw15_few.calls k (fun k_ => k_ < w.heap.size) _ _ l0_0 (fun k_ => k_ < w.heap.size) _ _ l0_1 (fun k_ => k_ < w.heap.size) _ _ l0_2 t310 t313 t316 _ ?side1 ?side2 ?side3 A4.out).mono ?_); (case side1 => exact Kd.V_mk HC0_0.out (Kd.F_below (Kd.C_F (Kd.heap_int .u8) HR0_0.out) (go_b1 HB.out GE309.out))); (case side2 => exact Kd.V_mk HC0_1.out (Kd.F_below (Kd.C_F k103_heap HR0_1.out) (go_b1 HB.out GE309.out))); (case side3 => exact Kd.V_mk HC0_2.out (Kd.F_below (Kd.C_F k33_heap HR0_2.out) (go_b1 HB.out GE309.out))); rintro e w23 ⟨v311, v314, v317, rfl, ho0, ho1, ho2, hb⟩; refine ⟨_, rfl, ?_⟩; have n0_ := Aside0.mk (Kd.V_lower (Kd.V_mono (ok' := fun k_ => k_ ≠ gb309) ho0 (fun k_ hk_ => Or.elim hk_ (fun hs_ => Or.elim hs_ (fun hs_ => fun e_ => Nat.not_le.2 hs_ (by rw [e_]; exact GW309.out)) (fun hs_ => Or.elim hs_ (fun hs_ => fun e_ => Nat.not_le.2 hs_ (by rw [e_]; exact GW309.out)) (fun hs_ => fun e_ => Nat.not_le.2 hs_ (by rw [e_]; exact GW309.out)))) (fun hn_ => (Kd.freshB (g := gb309) (o := .cells #[.slice A0_0 l0_0.length c0_0, .slice A0_1 l0_1.length c0_1, .slice A0_2 l0_2.length c0_2] 68 (0, 0)) (go_k BK309.out) k_ hn_)))) (below_size (go_b1 HB.out GE309.out))); have n1_ := Aside0.mk (Kd.V_lower (Kd.V_mono (ok' := fun k_ => k_ ≠ gb309) ho1 (fun k_ hk_ => Or.elim hk_ (fun hs_ => Or.elim hs_ (fun hs_ => fun e_ => Nat.not_le.2 hs_ (by rw [e_]; exact GW309.out)) (fun hs_ => Or.elim hs_ (fun hs_ => fun e_ => Nat.not_le.2 hs_ (by rw [e_]; exact GW309.out)) (fun hs_ => fun e_ => Nat.not_le.2 hs_ (by rw [e_]; exact GW309.out)))) (fun hn_ => (Kd.freshB (g := gb309) (o := .cells #[.slice A0_0 l0_0.length c0_0, .slice A0_1 l0_1.length c0_1, .slice A0_2 l0_2.length c0_2] 68 (0, 0)) (go_k BK309.out) k_ hn_)))) (below_size (go_b1 HB.out GE309.out))); have n2_ := Aside0.mk (Kd.V_lower (Kd.V_mono (ok' := fun k_ => k_ ≠ gb309) ho2 (fun k_ hk_ => Or.elim hk_ (fun hs_ => Or.elim hs_ (fun hs_ => fun e_ => Nat.not_le.2 hs_ (by rw [e_]; exact GW309.out)) (fun hs_ => Or.elim hs_ (fun hs_ => fun e_ => Nat.not_le.2 hs_ (by rw [e_]; exact GW309.out)) (fun hs_ => fun e_ => Nat.not_le.2 hs_ (by rw [e_]; exact GW309.out)))) (fun hn_ => (Kd.freshB (g := gb309) (o := .cells #[.slice A0_0 l0_0.length c0_0, .slice A0_1 l0_1.length c0_1, .slice A0_2 l0_2.length c0_2] 68 (0, 0)) (go_k BK309.out) k_ hn_)))) (below_size (go_b1 HB.out GE309.out))); have n3_ := Aside0.mk (blk_below (g := gb309) (o := .cells #[.slice A0_0 l0_0.length c0_0, .slice A0_1 l0_1.length c0_1, .slice A0_2 l0_2.length c0_2] 68 (0, 0)) (go_k BK309.out) hb); have n4_ := Aside0.mk (below_step (go_b1 HB.out GE309.out) hb); clear BK309; clear HB; have HO312 := n0_; have HO315 := n1_; have HO318 := n2_; have BK309 := n3_; have HB := n4_; clear n0_ n1_ n2_ n3_ n4_; (try clear hb); (try clear hb2); (try clear hk); (try clear hi); (try clear ho0); (try clear ho1); (try clear ho2); obtain ⟨Ao24, co24, eo24⟩ := Kd.V_slice HO312.out; subst eo24; have hcz25_0 : w23.cell? ⟨gb309, 0, none⟩ = some (.slice A0_0 l0_0.length c0_0) := (blk_cell BK309.out 0).trans rfl; have hcz25_1 : w23.cell? ⟨gb309, 1, none⟩ = some (.slice A0_1 l0_1.length c0_1) := (blk_cell BK309.out 1).trans rfl; have hcz25_2 : w23.cell? ⟨gb309, 2, none⟩ = some (.slice A0_2 l0_2.length c0_2) := (blk_cell BK309.out 2).trans rfl; have hfz25_0 := blk_frozen BK309.out 0; have hfz25_1 := blk_frozen BK309.out 1; have hfz25_2 := blk_frozen BK309.out 2; obtain ⟨Ao26, co26, eo26⟩ := Kd.V_slice HO315.out; subst eo26; obtain ⟨Ao27, co27, eo27⟩ := Kd.V_slice HO318.out; subst eo27) | ((with_reducible refine gate_store (t := 68) (p := 3) rfl ?_); refine store_event (t := 68) (p := 3) (v := ?vo_w28) (w1 := (((w23.setCell ⟨gb309, 0, none⟩ (.slice Ao24 t310.length co24)).setCell ⟨gb309, 1, none⟩ (.slice Ao26 t313.length co26)).setCell ⟨gb309, 2, none⟩ (.slice Ao27 t316.length co27))) ?hg ?ho ?hn ?hr ?_; (case ho => rfl); (case hg => rfl); (case hn => rfl); (case hr => first | (go_simp; done) | (go_simp; rfl)); intro w28 hw; have n0_ : Aside0 (Kd.V (Kd.int .u8) 5 w28 w.heap.size (fun k_ => k_ ≠ gb309) (.slice Ao24 t310.length co24) t310) := ⟨(by rw [hw]; exact (by (with_reducible repeat (first | apply Kd.V_alloc | apply Kd.V_drewN | apply Kd.V_drew)); exact Kd.V_mono (Kd.V_far (p := ⟨gb309, 2, none⟩) (Kd.V_far (p := ⟨gb309, 1, none⟩) (Kd.V_far (p := ⟨gb309, 0, none⟩) (Kd.V_mono HO312.out (fun k_ hk => (⟨hk, hk⟩ : _ ∧ k_ ≠ gb309))) (fun _ hk => hk.2) (.slice Ao24 t310.length co24)) (fun _ hk => hk.2) (.slice Ao26 t313.length co26)) (fun _ hk => hk.2) (.slice Ao27 t316.length co27)) (fun _ hk => hk.1)))⟩; have n1_ : Aside0 (Kd.V k103 103 w28 w.heap.size (fun k_ => k_ ≠ gb309) (.slice Ao26 t313.length co26) t313) := ⟨(by rw [hw]; exact (by (with_reducible repeat (first | apply Kd.V_alloc | apply Kd.V_drewN | apply Kd.V_drew)); exact Kd.V_mono (Kd.V_far (p := ⟨gb309, 2, none⟩) (Kd.V_far (p := ⟨gb309, 1, none⟩) (Kd.V_far (p := ⟨gb309, 0, none⟩) (Kd.V_mono HO315.out (fun k_ hk => (⟨hk, hk⟩ : _ ∧ k_ ≠ gb309))) (fun _ hk => hk.2) (.slice Ao24 t310.length co24)) (fun _ hk => hk.2) (.slice Ao26 t313.length co26)) (fun _ hk => hk.2) (.slice Ao27 t316.length co27)) (fun _ hk => hk.1)))⟩; have n2_ : Aside0 (Kd.V k33 33 w28 w.heap.size (fun k_ => k_ ≠ gb309) (.slice Ao27 t316.length co27) t316) := ⟨(by rw [hw]; exact (by (with_reducible repeat (first | apply Kd.V_alloc | apply Kd.V_drewN | apply Kd.V_drew)); exact Kd.V_mono (Kd.V_far (p := ⟨gb309, 2, none⟩) (Kd.V_far (p := ⟨gb309, 1, none⟩) (Kd.V_far (p := ⟨gb309, 0, none⟩) (Kd.V_mono HO318.out (fun k_ hk => (⟨hk, hk⟩ : _ ∧ k_ ≠ gb309))) (fun _ hk => hk.2) (.slice Ao24 t310.length co24)) (fun _ hk => hk.2) (.slice Ao26 t313.length co26)) (fun _ hk => hk.2) (.slice Ao27 t316.length co27)) (fun _ hk => hk.1)))⟩; have n3_ : Aside0 (w28.heap[gb309]? = some (.cells #[.slice Ao24 t310.length co24, .slice Ao26 t313.length co26, .slice Ao27 t316.length co27] 68 (0, 0))) := ⟨(by rw [hw]; exact (by (with_reducible repeat (first | refine blk_drewN ?_ _ | refine blk_drew ?_ | refine blk_alloc ?_ _)); refine blk_put (cs := #[.slice Ao24 t310.length co24, .slice Ao26 t313.length co26, .slice A0_2 l0_2.length c0_2]) ?_ 2 _ rfl; refine blk_put (cs := #[.slice Ao24 t310.length co24, .slice A0_1 l0_1.length c0_1, .slice A0_2 l0_2.length c0_2]) ?_ 1 _ rfl; refine blk_put (cs := #[.slice A0_0 l0_0.length c0_0, .slice A0_1 l0_1.length c0_1, .slice A0_2 l0_2.length c0_2]) ?_ 0 _ rfl; (with_reducible repeat (first | refine blk_drewN ?_ _ | refine blk_drew ?_ | refine blk_alloc ?_ _)); exact BK309.out))⟩; have n4_ : Aside0 (Below w.heap.size w w28) := ⟨(by rw [hw]; exact (go_b1 HB.out GE309.out))⟩; clear hw; clear HO312; clear HO315; clear HO318; clear BK309; clear HB; have HO312 := n0_; have HO315 := n1_; have HO318 := n2_; have BK309 := n3_; have HB := n4_; clear n0_ n1_ n2_ n3_ n4_; have hcz29_0 : w28.cell? ⟨gb309, 0, none⟩ = some (.slice Ao24 t310.length co24) := (blk_cell BK309.out 0).trans rfl; have hcz29_1 : w28.cell? ⟨gb309, 1, none⟩ = some (.slice Ao26 t313.length co26) := (blk_cell BK309.out 1).trans rfl; have hcz29_2 : w28.cell? ⟨gb309, 2, none⟩ = some (.slice Ao27 t316.length co27) := (blk_cell BK309.out 2).trans rfl; have hfz29_0 := blk_frozen BK309.out 0; have hfz29_1 := blk_frozen BK309.out 1; have hfz29_2 := blk_frozen BK309.out 2) | ((with_reducible refine gate_callee (f := 39) rfl ?_); refine goesL_ (some 27) rfl rfl Tryd.func39 (by kernel_rfl) rfl #[.slice Ao24 t310.length co24, .slice Ao26 t313.length co26, .agg #[.slice Ao27 t316.length co27]] rfl (by (try simp only [List.map_toArray, List.map_cons, List.map_nil]); first | done | rfl | (simp only [List.length_drop, List.length_take]; rfl)) ?_; (with_reducible refine (view_New.calls k (fun k_ => k_ ≠ gb309) _ _ t310 (fun k_ => k_ ≠ gb309) _ _ t313 (fun k_ => k_ ≠ gb309) _ _ t316 t319 t322 _ ?side1 ?side2 ?side3 A5.out).mono ?_); (case side1 => exact HO312.out); (case side2 => exact HO315.out); (case side3 => exact HO318.out); rintro e w30 ⟨v320, rfl, ho0, hb⟩; refine ⟨_, rfl, ?_⟩; have n0_ := Aside0.mk (Kd.V_below (go_V HO312.out) hb); have n1_ := Aside0.mk (Kd.V_below (go_V HO315.out) hb); have n2_ := Aside0.mk (Kd.V_below (go_V HO318.out) hb); have n3_ := Aside0.mk (Kd.V_lower (Kd.V_mono (ok' := fun k_ => k_ ≠ gb309) ho0 (fun k_ hk_ => Or.elim hk_ (fun hs_ => Or.elim hs_ (fun hs_ => hs_) (fun hs_ => Or.elim hs_ (fun hs_ => hs_) (fun hs_ => hs_))) (fun hn_ => (Kd.freshB (g := gb309) (o := .cells #[.slice Ao24 t310.length co24, .slice Ao26 t313.length co26, .slice Ao27 t316.length co27] 68 (0, 0)) (go_k BK309.out) k_ hn_)))) (below_size (go_b1 HB.out GE309.out))); have n4_ := Aside0.mk (blk_below (g := gb309) (o := .cells #[.slice Ao24 t310.length co24, .slice Ao26 t313.length co26, .slice Ao27 t316.length co27] 68 (0, 0)) (go_k BK309.out) hb); have n5_ := Aside0.mk (below_step (go_b1 HB.out GE309.out) hb); clear HO312; clear HO315; clear HO318; clear BK309; clear HB; have HO312 := n0_; have HO315 := n1_; have HO318 := n2_; have HO321 := n3_; have BK309 := n4_; have HB := n5_; clear n0_ n1_ n2_ n3_ n4_ n5_; (try clear hb); (try clear hb2); (try clear hk); (try clear hi); (try clear ho0); (try simp only [errW_none, errW_some, erT_no, erV_no, erT_at, erV_at]); obtain ⟨ado31, co31, eo31⟩ := view_New.open HO321.out A5.out; subst eo31; (try simp only [view_New.ptr]); have hcz32_0 : w30.cell? ⟨gb309, 0, none⟩ = some (.slice Ao24 t310.length co24) := (blk_cell BK309.out 0).trans rfl; have hcz32_1 : w30.cell? ⟨gb309, 1, none⟩ = some (.slice Ao26 t313.length co26) := (blk_cell BK309.out 1).trans rfl; have hcz32_2 : w30.cell? ⟨gb309, 2, none⟩ = some (.slice Ao27 t316.length co27) := (blk_cell BK309.out 2).trans rfl; have hfz32_0 := blk_frozen BK309.out 0; have hfz32_1 := blk_frozen BK309.out 1; have hfz32_2 := blk_frozen BK309.out 2) | ((with_reducible refine gate_callee (f := 12) rfl ?_); refine goesL_ (some 36) rfl rfl Tryd.func12 (by kernel_rfl) rfl #[.agg #[.slice Ao27 t316.length co27], .int .i64 (t313.length : Int)] rfl (by (try simp only [List.map_toArray, List.map_cons, List.map_nil]); first | done | rfl | (simp only [List.length_drop, List.length_take]; rfl)) ?_; (with_reducible refine (cavilref13_Check.calls k _ _ t316 (t313.length : Int) t323 t324 _ ?side1 ?side2 A6.out).mono ?_); (case side1 => repeat (first | exact (Kd.V_reads' HO318.out).2.2 | (with_reducible refine Kd.C_alloc ?_ _) | (with_reducible refine Kd.C_drewN ?_ _) | (with_reducible refine Kd.C_drew ?_))); (case side2 => exact (Kd.V_reads' HO318.out).2.1); rintro e w33 ⟨rfl, hb⟩; refine ⟨_, rfl, ?_⟩; have n0_ := Aside0.mk (Kd.V_below (go_V HO312.out) hb); have n1_ := Aside0.mk (Kd.V_below (go_V HO315.out) hb); have n2_ := Aside0.mk (Kd.V_below (go_V HO318.out) hb); have n3_ := Aside0.mk (Kd.V_below (go_V HO321.out) hb); have n4_ := Aside0.mk (blk_below (g := gb309) (o := .cells #[.slice Ao24 t310.length co24, .slice Ao26 t313.length co26, .slice Ao27 t316.length co27] 68 (0, 0)) (go_k BK309.out) hb); have n5_ := Aside0.mk (below_step (go_b1 HB.out GE309.out) hb); clear HO312; clear HO315; clear HO318; clear HO321; clear BK309; clear HB; have HO312 := n0_; have HO315 := n1_; have HO318 := n2_; have HO321 := n3_; have BK309 := n4_; have HB := n5_; clear n0_ n1_ n2_ n3_ n4_ n5_; (try clear hb); (try clear hb2); (try clear hk); (try clear hi); have CA7 := fun W => cavillaw01_Code.calls k none t325 W A7.out; try simp only [errW_none, errW_some, erT_no, erV_no, erT_at, erV_at] at CA7) | (go_at_call 13; (with_reducible refine (CA7 _).mono ?_); rintro e w34 ⟨rfl, hb⟩; have n0_ := Aside0.mk (Kd.V_below (go_V HO312.out) hb); have n1_ := Aside0.mk (Kd.V_below (go_V HO315.out) hb); have n2_ := Aside0.mk (Kd.V_below (go_V HO318.out) hb); have n3_ := Aside0.mk (Kd.V_below (go_V HO321.out) hb); have n4_ := Aside0.mk (blk_below (g := gb309) (o := .cells #[.slice Ao24 t310.length co24, .slice Ao26 t313.length co26, .slice Ao27 t316.length co27] 68 (0, 0)) (go_k BK309.out) hb); have n5_ := Aside0.mk (below_step (go_b1 HB.out GE309.out) hb); clear HO312; clear HO315; clear HO318; clear HO321; clear BK309; clear HB; have HO312 := n0_; have HO315 := n1_; have HO318 := n2_; have HO321 := n3_; have BK309 := n4_; have HB := n5_; clear n0_ n1_ n2_ n3_ n4_ n5_; (try clear hb); (try clear hb2); (try clear hk); (try clear hi); have CA9 := fun W hg_ => cavillaw01_Off.calls none t326 W hg_ A9.out; try simp only [errW_none, errW_some, erT_no, erV_no, erT_at, erV_at] at CA9) | (go_at_call 14; (with_reducible refine (CA9 _ ?sideg).mono ?_); (case sideg => repeat (first | exact (GL_below HG.out HB.out) | exact HG.out | (with_reducible refine GL_alloc ?_ _) | (with_reducible refine GL_drewN ?_ _) | (with_reducible refine GL_drew ?_))); rintro e w35 ⟨rfl, hb⟩; have n0_ := Aside0.mk (Kd.V_below (go_V HO312.out) hb); have n1_ := Aside0.mk (Kd.V_below (go_V HO315.out) hb); have n2_ := Aside0.mk (Kd.V_below (go_V HO318.out) hb); have n3_ := Aside0.mk (Kd.V_below (go_V HO321.out) hb); have n4_ := Aside0.mk (blk_below (g := gb309) (o := .cells #[.slice Ao24 t310.length co24, .slice Ao26 t313.length co26, .slice Ao27 t316.length co27] 68 (0, 0)) (go_k BK309.out) hb); have n5_ := Aside0.mk (below_step (go_b1 HB.out GE309.out) hb); clear HO312; clear HO315; clear HO318; clear HO321; clear BK309; clear HB; have HO312 := n0_; have HO315 := n1_; have HO318 := n2_; have HO321 := n3_; have BK309 := n4_; have HB := n5_; clear n0_ n1_ n2_ n3_ n4_ n5_; (try clear hb); (try clear hb2); (try clear hk); (try clear hi)))
       have n0_ := Aside0.mk (Kd.V_drew HO312.out)
       have n1_ := Aside0.mk (Kd.V_drew HO315.out)
       have n2_ := Aside0.mk (Kd.V_drew HO318.out)
       have n3_ := Aside0.mk (Kd.V_drew HO321.out)
       have n4_ := Aside0.mk (blk_drew BK309.out)
       have n5_ := Aside0.mk (below_drew1 HB.out)
       clear HO312
       clear HO315
       clear HO318
       clear HO321
       clear BK309
       clear HB
       have HO312 := n0_
       have HO315 := n1_
       have HO318 := n2_
       have HO321 := n3_
       have BK309 := n4_
       have HB := n5_
       clear n0_ n1_ n2_ n3_ n4_ n5_
       refine start_ (n := 9) (S := fun w' => w'.cell? ⟨gb309, 0, none⟩ = some (.slice Ao24 t310.length co24) ∧ w'.cell? ⟨gb309, 1, none⟩ = some (.slice Ao26 t313.length co26) ∧ w'.cell? ⟨gb309, 2, none⟩ = some (.slice Ao27 t316.length co27)) (ds := []) #[false, false, false, false, false, false, false, false, false] (by kernel_rfl) rfl rfl ⟨(blk_cell BK309.out 0).trans rfl, (blk_cell BK309.out 1).trans rfl, (blk_cell BK309.out 2).trans rfl⟩ (fun hHeld => ?_); refine with_tabW cavillaw15_ViewNodes.tab8 cavillaw15_ViewNodes.bits8 (fun HT_ HW_ => ?_)
       generalize w35.drew = w36 at HO312 HO315 HO318 HO321 BK309 HB hHeld ⊢
       refine pure_ (i := 0) (N := some 91) (v := ?_) (a' := ?_) #[true, false, false, false, false, false, false, false, false] rfl rfl (any_of HT_.out (by kernel_rfl)) (fun _ _ _ h => h) (Or.inl ⟨by rfl, ?_⟩) ?_ ?_; rotate_left; { intro w'; go_simp; with_reducible rfl }; rotate_left; { simp only [Act.put, List.setIfInBounds_toArray, List.set_cons_zero, List.set_cons_succ, i64_w, i32_w]; rfl }
       refine pure_ (i := 1) (N := some 92) (v := ?_) (a' := ?_) #[true, true, false, false, false, false, false, false, false] rfl rfl (any_of HT_.out (by kernel_rfl)) (fun _ _ _ h => h) (Or.inl ⟨by rfl, ?_⟩) ?_ ?_; rotate_left; { intro w'; go_simp; with_reducible rfl }; rotate_left; { simp only [Act.put, List.setIfInBounds_toArray, List.set_cons_zero, List.set_cons_succ, i64_w, i32_w]; rfl }
       refine pure_ (i := 3) (N := some 94) (v := ?_) (a' := ?_) #[true, true, false, true, false, false, false, false, false] rfl rfl (any_of HT_.out (by kernel_rfl)) (fun _ _ _ h => h) (Or.inl ⟨by rfl, ?_⟩) ?_ ?_; rotate_left; { intro w'; go_simp; with_reducible rfl }; rotate_left; { simp only [Act.put, List.setIfInBounds_toArray, List.set_cons_zero, List.set_cons_succ, i64_w, i32_w]; rfl }
       refine pure_ (i := 5) (N := some 96) (v := ?_) (a' := ?_) #[true, true, false, true, false, true, false, false, false] rfl rfl (any_of HT_.out (by kernel_rfl)) (fun _ _ _ h => h) (Or.inl ⟨by rfl, ?_⟩) ?_ ?_; rotate_left; { intro w'; go_simp; with_reducible rfl }; rotate_left; { simp only [Act.put, List.setIfInBounds_toArray, List.set_cons_zero, List.set_cons_succ, i64_w, i32_w]; rfl }
       refine take_ (i := 4) (N := some 95) (v := ?_) (a' := ?_) #[true, true, false, true, true, true, false, false, false] rfl rfl (take_ofW HT_.out HW_.out (by kernel_rfl)) (fun _ _ _ h => h) (Or.inl ⟨by rfl, ?_⟩) hHeld ?_ ?_; rotate_left; { rintro w' ⟨s0, s1, s2⟩; go_simp; with_reducible rfl }; rotate_left; { simp only [Act.put, List.setIfInBounds_toArray, List.set_cons_zero, List.set_cons_succ, i64_w, i32_w]; rfl }
       refine one_ (i := 2) (N := some 93) #[true, true, true, true, true, true, false, false, false] rfl rfl (one_of HT_.out (by kernel_rfl)) (by decide) (fun K hK => ?_)
       refine goes_ Tryd.func44 (by kernel_rfl) rfl #[.pointer (some ado31), .int .i64 a1] (by rfl) rfl rfl (by (try simp only [List.map_toArray, List.map_cons, List.map_nil]); first | done | rfl | (simp only [List.length_drop, List.length_take]; rfl)) ?_
       with_reducible refine (view_File_Own.calls _ co31 t319 a1 t327 _ ?side1 ?side2 A12.out).mono ?_
       (case side1 => repeat (first | exact (Kd.V_reads' HO321.out).2.2 | (with_reducible refine Kd.C_alloc ?_ _) | (with_reducible refine Kd.C_drewN ?_ _) | (with_reducible refine Kd.C_drew ?_)))
       (case side2 => exact (Kd.V_reads' HO321.out).2.1)
       rintro e w37 ⟨v328, rfl, ho0, hb⟩
       refine ⟨_, rfl, ?_⟩
       have n0_ := Aside0.mk (Kd.V_elder' (go_V HO312.out) (Kd.R_base ho0) hb)
       have n1_ := Aside0.mk (Kd.V_elder' (go_V HO315.out) (Kd.R_base ho0) hb)
       have n2_ := Aside0.mk (Kd.V_elder' (go_V HO318.out) (Kd.R_base ho0) hb)
       have n3_ := Aside0.mk (Kd.V_elder' (go_V HO321.out) (Kd.R_base ho0) hb)
       have n4_ := Aside0.mk (Kd.R_lower ho0 (below_size (go_b1 HB.out GE309.out)))
       have n5_ := Aside0.mk (blk_below (g := gb309) (o := .cells #[.slice Ao24 t310.length co24, .slice Ao26 t313.length co26, .slice Ao27 t316.length co27] 68 (0, 0)) (go_k BK309.out) hb)
       have n6_ := Aside0.mk (below_step (go_b1 HB.out GE309.out) hb)
       clear HO312
       clear HO315
       clear HO318
       clear HO321
       clear BK309
       clear HB
       have HO312 := n0_
       have HO315 := n1_
       have HO318 := n2_
       have HO321 := n3_
       have HO329 := n4_
       have BK309 := n5_
       have HB := n6_
       clear n0_ n1_ n2_ n3_ n4_ n5_ n6_
       (try clear hb)
       (try clear hb2)
       (try clear hk)
       (try clear hi)
       (try clear ho0)
       refine hK.out _ _ ⟨(blk_cell BK309.out 0).trans rfl, (blk_cell BK309.out 1).trans rfl, (blk_cell BK309.out 2).trans rfl⟩ (fun hHeld => ?_)
       clear hK K
       refine norm_ (a' := ?_) ?_ ?_; rotate_left; { show Act.put _ (some 93) _ = _; simp only [Act.put, List.setIfInBounds_toArray, List.set_cons_zero, List.set_cons_succ, i64_w, i32_w]; rfl }
       refine one_ (i := 6) (N := some 97) #[true, true, true, true, true, true, true, false, false] rfl rfl (one_of HT_.out (by kernel_rfl)) (by decide) (fun K hK => ?_)
       refine goes_ Tryd.func46 (by kernel_rfl) rfl #[.agg #[.slice Ao27 t316.length co27], .int .i64 a1] (by rfl) rfl rfl (by (try simp only [List.map_toArray, List.map_cons, List.map_nil]); first | done | rfl | (simp only [List.length_drop, List.length_take]; rfl)) ?_
       with_reducible refine (cavilref15_Own.calls k _ _ t316 a1 t330 _ ?side1 ?side2 A13.out).mono ?_
       (case side1 => repeat (first | exact (Kd.V_reads' HO318.out).2.2 | (with_reducible refine Kd.C_alloc ?_ _) | (with_reducible refine Kd.C_drewN ?_ _) | (with_reducible refine Kd.C_drew ?_)))
       (case side2 => exact (Kd.V_reads' HO318.out).2.1)
       rintro e w38 ⟨v331, rfl, ho0, hb⟩
       refine ⟨_, rfl, ?_⟩
       have n0_ := Aside0.mk (Kd.V_elder' (go_V HO312.out) (Kd.R_base ho0) hb)
       have n1_ := Aside0.mk (Kd.V_elder' (go_V HO315.out) (Kd.R_base ho0) hb)
       have n2_ := Aside0.mk (Kd.V_elder' (go_V HO318.out) (Kd.R_base ho0) hb)
       have n3_ := Aside0.mk (Kd.V_elder' (go_V HO321.out) (Kd.R_base ho0) hb)
       have n4_ := Aside0.mk (Kd.R_elder' (go_R HO329.out) (Kd.R_base ho0) hb)
       have n5_ := Aside0.mk (Kd.R_lower (Kd.R_new' ho0 (Kd.R_lt (go_R HO329.out))) (below_size (go_b1 HB.out GE309.out)))
       have n6_ := Aside0.mk (blk_below (g := gb309) (o := .cells #[.slice Ao24 t310.length co24, .slice Ao26 t313.length co26, .slice Ao27 t316.length co27] 68 (0, 0)) (go_k BK309.out) hb)
       have n7_ := Aside0.mk (below_step (go_b1 HB.out GE309.out) hb)
       clear HO312
       clear HO315
       clear HO318
       clear HO321
       clear HO329
       clear BK309
       clear HB
       have HO312 := n0_
       have HO315 := n1_
       have HO318 := n2_
       have HO321 := n3_
       have HO329 := n4_
       have HO332 := n5_
       have BK309 := n6_
       have HB := n7_
       clear n0_ n1_ n2_ n3_ n4_ n5_ n6_ n7_
       (try clear hb)
       (try clear hb2)
       (try clear hk)
       (try clear hi)
       (try clear ho0)
       refine hK.out _ _ ⟨(blk_cell BK309.out 0).trans rfl, (blk_cell BK309.out 1).trans rfl, (blk_cell BK309.out 2).trans rfl⟩ (fun hHeld => ?_)
       clear hK K
       refine norm_ (a' := ?_) ?_ ?_; rotate_left; { show Act.put _ (some 97) _ = _; simp only [Act.put, List.setIfInBounds_toArray, List.set_cons_zero, List.set_cons_succ, i64_w, i32_w]; rfl }
       refine pure_ (i := 7) (N := some 11) (v := ?_) (a' := ?_) #[true, true, true, true, true, true, true, true, false] rfl rfl (any_of HT_.out (by kernel_rfl)) (fun _ _ _ h => h) (Or.inl ⟨by rfl, ?_⟩) ?_ ?_; rotate_left; { intro w'; go_simp; with_reducible rfl }; rotate_left; { simp only [Act.put, List.setIfInBounds_toArray, List.set_cons_zero, List.set_cons_succ, i64_w, i32_w]; rfl }
       refine pure_ (i := 8) (N := some 12) (v := ?_) (a' := ?_) #[true, true, true, true, true, true, true, true, true] rfl rfl (any_of HT_.out (by kernel_rfl)) (fun _ _ _ h => h) (Or.inl ⟨by rfl, ?_⟩) ?_ ?_; rotate_left; { intro w'; go_simp; with_reducible rfl }; rotate_left; { simp only [Act.put, List.setIfInBounds_toArray, List.set_cons_zero, List.set_cons_succ, i64_w, i32_w]; rfl }
       refine done_ (done_of HT_.out (by kernel_rfl)) ?_
       try go_wp2
       have n0_ := Aside0.mk (Kd.V_drew HO312.out)
       have n1_ := Aside0.mk (Kd.V_drew HO315.out)
       have n2_ := Aside0.mk (Kd.V_drew HO318.out)
       have n3_ := Aside0.mk (Kd.V_drew HO321.out)
       have n4_ := Aside0.mk (Kd.R_drew HO329.out)
       have n5_ := Aside0.mk (Kd.R_drew HO332.out)
       have n6_ := Aside0.mk (blk_drew BK309.out)
       have n7_ := Aside0.mk (below_drew1 HB.out)
       clear HO312
       clear HO315
       clear HO318
       clear HO321
       clear HO329
       clear HO332
       clear BK309
       clear HB
       have HO312 := n0_
       have HO315 := n1_
       have HO318 := n2_
       have HO321 := n3_
       have HO329 := n4_
       have HO332 := n5_
       have BK309 := n6_
       have HB := n7_
       clear n0_ n1_ n2_ n3_ n4_ n5_ n6_ n7_
       obtain ⟨Ao40, co40, eo40⟩ := Kd.R_slice HO329.out
       (first | subst eo40 | (injection eo40 with f1_ f2_ f3_; have f4_ := f1_.symm; have f5_ := f3_.symm; clear f1_ f2_ f3_; subst f4_; subst f5_))
       obtain ⟨Ao41, co41, eo41⟩ := Kd.R_slice HO332.out
       (first | subst eo41 | (injection eo41 with f1_ f2_ f3_; have f4_ := f1_.symm; have f5_ := f3_.symm; clear f1_ f2_ f3_; subst f4_; subst f5_))
       refine start_ (n := 31) (S := fun w' => w'.cell? ⟨gb309, 0, none⟩ = some (.slice Ao24 t310.length co24) ∧ w'.cell? ⟨gb309, 1, none⟩ = some (.slice Ao26 t313.length co26) ∧ w'.cell? ⟨gb309, 2, none⟩ = some (.slice Ao27 t316.length co27)) (ds := []) #[false, false, false, false, false, false, false, false, false, false, false, false, false, false, false, false, false, false, false, false, false, false, false, false, false, false, false, false, false, false, false] (by kernel_rfl) rfl rfl ⟨(blk_cell BK309.out 0).trans rfl, (blk_cell BK309.out 1).trans rfl, (blk_cell BK309.out 2).trans rfl⟩ (fun hHeld => ?_); refine with_tabW cavillaw15_ViewNodes.tab9 cavillaw15_ViewNodes.bits9 (fun HT_ HW_ => ?_)
       generalize w38.drew = w39 at HO312 HO315 HO318 HO321 HO329 HO332 BK309 HB hHeld ⊢
       refine pure_ (i := 0) (N := some 98) (v := ?_) (a' := ?_) (bl_ 31 1) rfl rfl (any_of HT_.out (by kernel_rfl)) (fun _ _ _ h => h) (Or.inl ⟨by rfl, ?_⟩) ?_ ?_; rotate_left; { intro w'; go_simp; with_reducible rfl }; rotate_left; { simp only [Act.put, List.setIfInBounds_toArray, List.set_cons_zero, List.set_cons_succ, i64_w, i32_w]; rfl }
       refine pure_ (i := 1) (N := some 99) (v := ?_) (a' := ?_) (bl_ 31 3) rfl rfl (any_of HT_.out (by kernel_rfl)) (fun _ _ _ h => h) (Or.inl ⟨by rfl, ?_⟩) ?_ ?_; rotate_left; { intro w'; go_simp; with_reducible rfl }; rotate_left; { simp only [Act.put, List.setIfInBounds_toArray, List.set_cons_zero, List.set_cons_succ, i64_w, i32_w]; rfl }
       refine pure_ (i := 2) (N := some 100) (v := ?_) (a' := ?_) (bl_ 31 7) rfl rfl (any_of HT_.out (by kernel_rfl)) (fun _ _ _ h => h) (Or.inl ⟨by rfl, ?_⟩) ?_ ?_; rotate_left; { intro w'; go_simp; with_reducible rfl }; rotate_left; { simp only [Act.put, List.setIfInBounds_toArray, List.set_cons_zero, List.set_cons_succ, i64_w, i32_w]; rfl }
       refine pure_ (i := 3) (N := some 101) (v := ?_) (a' := ?_) (bl_ 31 15) rfl rfl (any_of HT_.out (by kernel_rfl)) (fun _ _ _ h => h) (Or.inl ⟨by rfl, ?_⟩) ?_ ?_; rotate_left; { intro w'; go_simp; with_reducible rfl }; rotate_left; { simp only [Act.put, List.setIfInBounds_toArray, List.set_cons_zero, List.set_cons_succ, i64_w, i32_w]; rfl }
       refine pure_ (i := 4) (N := some 102) (v := ?_) (a' := ?_) (bl_ 31 31) rfl rfl (any_of HT_.out (by kernel_rfl)) (fun _ _ _ h => h) (Or.inl ⟨by rfl, ?_⟩) ?_ ?_; rotate_left; { intro w'; go_simp; with_reducible rfl }; rotate_left; { simp only [Act.put, List.setIfInBounds_toArray, List.set_cons_zero, List.set_cons_succ, i64_w, i32_w]; rfl }
       refine pure_ (i := 5) (N := some 103) (v := ?_) (a' := ?_) (bl_ 31 63) rfl rfl (any_of HT_.out (by kernel_rfl)) (fun _ _ _ h => h) (Or.inl ⟨by rfl, ?_⟩) ?_ ?_; rotate_left; { intro w'; go_simp; with_reducible rfl }; rotate_left; { simp only [Act.put, List.setIfInBounds_toArray, List.set_cons_zero, List.set_cons_succ, i64_w, i32_w]; rfl }
       refine pure_ (i := 6) (N := some 104) (v := ?_) (a' := ?_) (bl_ 31 127) rfl rfl (any_of HT_.out (by kernel_rfl)) (fun _ _ _ h => h) (Or.inl ⟨by rfl, ?_⟩) ?_ ?_; rotate_left; { intro w'; go_simp; with_reducible rfl }; rotate_left; { simp only [Act.put, List.setIfInBounds_toArray, List.set_cons_zero, List.set_cons_succ, i64_w, i32_w]; rfl }
       refine pure_ (i := 7) (N := some 105) (v := ?_) (a' := ?_) (bl_ 31 255) rfl rfl (any_of HT_.out (by kernel_rfl)) (fun _ _ _ h => h) (Or.inl ⟨by rfl, ?_⟩) ?_ ?_; rotate_left; { intro w'; go_simp; with_reducible rfl }; rotate_left; { simp only [Act.put, List.setIfInBounds_toArray, List.set_cons_zero, List.set_cons_succ, i64_w, i32_w]; rfl }
       refine pure_ (i := 8) (N := some 106) (v := ?_) (a' := ?_) (bl_ 31 511) rfl rfl (any_of HT_.out (by kernel_rfl)) (fun _ _ _ h => h) (Or.inl ⟨by rfl, ?_⟩) ?_ ?_; rotate_left; { intro w'; go_simp; with_reducible rfl }; rotate_left; { simp only [Act.put, List.setIfInBounds_toArray, List.set_cons_zero, List.set_cons_succ, i64_w, i32_w]; rfl }
       refine pure_ (i := 10) (N := some 108) (v := ?_) (a' := ?_) (bl_ 31 1535) rfl rfl (any_of HT_.out (by kernel_rfl)) (fun _ _ _ h => h) (Or.inl ⟨by rfl, ?_⟩) ?_ ?_; rotate_left; { intro w'; go_simp; with_reducible rfl }; rotate_left; { simp only [Act.put, List.setIfInBounds_toArray, List.set_cons_zero, List.set_cons_succ, i64_w, i32_w]; rfl }
       refine pure_ (i := 12) (N := some 110) (v := ?_) (a' := ?_) (bl_ 31 5631) rfl rfl (any_of HT_.out (by kernel_rfl)) (fun _ _ _ h => h) (Or.inl ⟨by rfl, ?_⟩) ?_ ?_; rotate_left; { intro w'; go_simp; with_reducible rfl }; rotate_left; { simp only [Act.put, List.setIfInBounds_toArray, List.set_cons_zero, List.set_cons_succ, i64_w, i32_w]; rfl }
       refine pure_ (i := 13) (N := some 111) (v := ?_) (a' := ?_) (bl_ 31 13823) rfl rfl (any_of HT_.out (by kernel_rfl)) (fun _ _ _ h => h) (Or.inl ⟨by rfl, ?_⟩) ?_ ?_; rotate_left; { intro w'; go_simp; with_reducible rfl }; rotate_left; { simp only [Act.put, List.setIfInBounds_toArray, List.set_cons_zero, List.set_cons_succ, i64_w, i32_w]; rfl }
       refine take_ (i := 11) (N := some 109) (v := ?_) (a' := ?_) (bl_ 31 15871) rfl rfl (take_ofW HT_.out HW_.out (by kernel_rfl)) (fun _ _ _ h => h) (Or.inl ⟨by rfl, ?_⟩) hHeld ?_ ?_; rotate_left; { rintro w' ⟨s0, s1, s2⟩; go_simp; with_reducible rfl }; rotate_left; { simp only [Act.put, List.setIfInBounds_toArray, List.set_cons_zero, List.set_cons_succ, i64_w, i32_w]; rfl }
       refine one_ (i := 9) (N := some 107) (bl_ 31 16383) rfl rfl (one_of HT_.out (by kernel_rfl)) (by decide) (fun K hK => ?_)
       refine goes_ Tryd.func41 (by kernel_rfl) rfl #[.pointer (some ado31), .int .i64 a1, .int .i64 a2] (by rfl) rfl rfl (by (try simp only [List.map_toArray, List.map_cons, List.map_nil]); first | done | rfl | (simp only [List.length_drop, List.length_take]; rfl)) ?_
       with_reducible refine (view_File_Kid.calls _ co31 t319 a1 a2 t333 _ ?side1 ?side2 A15.out).mono ?_
       (case side1 => repeat (first | exact (Kd.V_reads' HO321.out).2.2 | (with_reducible refine Kd.C_alloc ?_ _) | (with_reducible refine Kd.C_drewN ?_ _) | (with_reducible refine Kd.C_drew ?_)))
       (case side2 => exact (Kd.V_reads' HO321.out).2.1)
       rintro e w42 ⟨rfl, hb⟩
       refine ⟨_, rfl, ?_⟩
       have n0_ := Aside0.mk (Kd.V_below (go_V HO312.out) hb)
       have n1_ := Aside0.mk (Kd.V_below (go_V HO315.out) hb)
       have n2_ := Aside0.mk (Kd.V_below (go_V HO318.out) hb)
       have n3_ := Aside0.mk (Kd.V_below (go_V HO321.out) hb)
       have n4_ := Aside0.mk (Kd.R_below (go_R HO329.out) hb)
       have n5_ := Aside0.mk (Kd.R_below (go_R HO332.out) hb)
       have n6_ := Aside0.mk (blk_below (g := gb309) (o := .cells #[.slice Ao24 t310.length co24, .slice Ao26 t313.length co26, .slice Ao27 t316.length co27] 68 (0, 0)) (go_k BK309.out) hb)
       have n7_ := Aside0.mk (below_step (go_b1 HB.out GE309.out) hb)
       clear HO312
       clear HO315
       clear HO318
       clear HO321
       clear HO329
       clear HO332
       clear BK309
       clear HB
       have HO312 := n0_
       have HO315 := n1_
       have HO318 := n2_
       have HO321 := n3_
       have HO329 := n4_
       have HO332 := n5_
       have BK309 := n6_
       have HB := n7_
       clear n0_ n1_ n2_ n3_ n4_ n5_ n6_ n7_
       (try clear hb)
       (try clear hb2)
       (try clear hk)
       (try clear hi)
       refine hK.out _ _ ⟨(blk_cell BK309.out 0).trans rfl, (blk_cell BK309.out 1).trans rfl, (blk_cell BK309.out 2).trans rfl⟩ (fun hHeld => ?_)
       clear hK K
       refine norm_ (a' := ?_) ?_ ?_; rotate_left; { show Act.put _ (some 107) _ = _; simp only [Act.put, List.setIfInBounds_toArray, List.set_cons_zero, List.set_cons_succ, i64_w, i32_w]; rfl }
       refine one_ (i := 14) (N := some 112) (bl_ 31 32767) rfl rfl (one_of HT_.out (by kernel_rfl)) (by decide) (fun K hK => ?_)
       refine goes_ Tryd.func47 (by kernel_rfl) rfl #[.agg #[.slice Ao27 t316.length co27], .int .i64 a1, .int .i64 a2] (by rfl) rfl rfl (by (try simp only [List.map_toArray, List.map_cons, List.map_nil]); first | done | rfl | (simp only [List.length_drop, List.length_take]; rfl)) ?_
       with_reducible refine (cavilref15_Kid.calls _ _ t316 a1 a2 t334 _ ?side1 ?side2 A16.out).mono ?_
       (case side1 => repeat (first | exact (Kd.V_reads' HO318.out).2.2 | (with_reducible refine Kd.C_alloc ?_ _) | (with_reducible refine Kd.C_drewN ?_ _) | (with_reducible refine Kd.C_drew ?_)))
       (case side2 => exact (Kd.V_reads' HO318.out).2.1)
       rintro e w43 ⟨rfl, hb⟩
       refine ⟨_, rfl, ?_⟩
       have n0_ := Aside0.mk (Kd.V_below (go_V HO312.out) hb)
       have n1_ := Aside0.mk (Kd.V_below (go_V HO315.out) hb)
       have n2_ := Aside0.mk (Kd.V_below (go_V HO318.out) hb)
       have n3_ := Aside0.mk (Kd.V_below (go_V HO321.out) hb)
       have n4_ := Aside0.mk (Kd.R_below (go_R HO329.out) hb)
       have n5_ := Aside0.mk (Kd.R_below (go_R HO332.out) hb)
       have n6_ := Aside0.mk (blk_below (g := gb309) (o := .cells #[.slice Ao24 t310.length co24, .slice Ao26 t313.length co26, .slice Ao27 t316.length co27] 68 (0, 0)) (go_k BK309.out) hb)
       have n7_ := Aside0.mk (below_step (go_b1 HB.out GE309.out) hb)
       clear HO312
       clear HO315
       clear HO318
       clear HO321
       clear HO329
       clear HO332
       clear BK309
       clear HB
       have HO312 := n0_
       have HO315 := n1_
       have HO318 := n2_
       have HO321 := n3_
       have HO329 := n4_
       have HO332 := n5_
       have BK309 := n6_
       have HB := n7_
       clear n0_ n1_ n2_ n3_ n4_ n5_ n6_ n7_
       (try clear hb)
       (try clear hb2)
       (try clear hk)
       (try clear hi)
       refine hK.out _ _ ⟨(blk_cell BK309.out 0).trans rfl, (blk_cell BK309.out 1).trans rfl, (blk_cell BK309.out 2).trans rfl⟩ (fun hHeld => ?_)
       clear hK K
       refine norm_ (a' := ?_) ?_ ?_; rotate_left; { show Act.put _ (some 112) _ = _; simp only [Act.put, List.setIfInBounds_toArray, List.set_cons_zero, List.set_cons_succ, i64_w, i32_w]; rfl }
       refine pure_ (i := 15) (N := some 113) (v := ?_) (a' := ?_) (bl_ 31 65535) rfl rfl (any_of HT_.out (by kernel_rfl)) (fun _ _ _ h => h) (Or.inl ⟨by rfl, ?_⟩) ?_ ?_; rotate_left; { intro w'; go_simp; with_reducible rfl }; rotate_left; { simp only [Act.put, List.setIfInBounds_toArray, List.set_cons_zero, List.set_cons_succ, i64_w, i32_w]; rfl }
       refine pure_ (i := 16) (N := some 114) (v := ?_) (a' := ?_) (bl_ 31 131071) rfl rfl (any_of HT_.out (by kernel_rfl)) (fun _ _ _ h => h) (Or.inl ⟨by rfl, ?_⟩) ?_ ?_; rotate_left; { intro w'; go_simp; with_reducible rfl }; rotate_left; { simp only [Act.put, List.setIfInBounds_toArray, List.set_cons_zero, List.set_cons_succ, i64_w, i32_w]; rfl }
       refine pure_ (i := 17) (N := some 115) (v := ?_) (a' := ?_) (bl_ 31 262143) rfl rfl (any_of HT_.out (by kernel_rfl)) (fun _ _ _ h => h) (Or.inl ⟨by rfl, ?_⟩) ?_ ?_; rotate_left; { intro w'; go_simp; with_reducible rfl }; rotate_left; { simp only [Act.put, List.setIfInBounds_toArray, List.set_cons_zero, List.set_cons_succ, i64_w, i32_w]; rfl }
       refine pure_ (i := 18) (N := some 116) (v := ?_) (a' := ?_) (bl_ 31 524287) rfl rfl (any_of HT_.out (by kernel_rfl)) (fun _ _ _ h => h) (Or.inl ⟨by rfl, ?_⟩) ?_ ?_; rotate_left; { intro w'; go_simp; with_reducible rfl }; rotate_left; { simp only [Act.put, List.setIfInBounds_toArray, List.set_cons_zero, List.set_cons_succ, i64_w, i32_w]; rfl }
       refine pure_ (i := 19) (N := some 117) (v := ?_) (a' := ?_) (bl_ 31 1048575) rfl rfl (any_of HT_.out (by kernel_rfl)) (fun _ _ _ h => h) (Or.inl ⟨by rfl, ?_⟩) ?_ ?_; rotate_left; { intro w'; go_simp; with_reducible rfl }; rotate_left; { simp only [Act.put, List.setIfInBounds_toArray, List.set_cons_zero, List.set_cons_succ, i64_w, i32_w]; rfl }
       refine pure_ (i := 21) (N := some 119) (v := ?_) (a' := ?_) (bl_ 31 3145727) rfl rfl (any_of HT_.out (by kernel_rfl)) (fun _ _ _ h => h) (Or.inl ⟨by rfl, ?_⟩) ?_ ?_; rotate_left; { intro w'; go_simp; with_reducible rfl }; rotate_left; { simp only [Act.put, List.setIfInBounds_toArray, List.set_cons_zero, List.set_cons_succ, i64_w, i32_w]; rfl }
       refine pure_ (i := 23) (N := some 121) (v := ?_) (a' := ?_) (bl_ 31 11534335) rfl rfl (any_of HT_.out (by kernel_rfl)) (fun _ _ _ h => h) (Or.inl ⟨by rfl, ?_⟩) ?_ ?_; rotate_left; { intro w'; go_simp; with_reducible rfl }; rotate_left; { simp only [Act.put, List.setIfInBounds_toArray, List.set_cons_zero, List.set_cons_succ, i64_w, i32_w]; rfl }
       refine pure_ (i := 25) (N := some 123) (v := ?_) (a' := ?_) (bl_ 31 45088767) rfl rfl (any_of HT_.out (by kernel_rfl)) (fun _ _ _ h => h) (Or.inl ⟨by rfl, ?_⟩) ?_ ?_; rotate_left; { intro w'; go_simp; with_reducible rfl }; rotate_left; { simp only [Act.put, List.setIfInBounds_toArray, List.set_cons_zero, List.set_cons_succ, i64_w, i32_w]; rfl }
       refine pure_ (i := 27) (N := some 125) (v := ?_) (a' := ?_) (bl_ 31 179306495) rfl rfl (any_of HT_.out (by kernel_rfl)) (fun _ _ _ h => h) (Or.inl ⟨by rfl, ?_⟩) ?_ ?_; rotate_left; { intro w'; go_simp; with_reducible rfl }; rotate_left; { simp only [Act.put, List.setIfInBounds_toArray, List.set_cons_zero, List.set_cons_succ, i64_w, i32_w]; rfl }
       refine take_ (i := 22) (N := some 120) (v := ?_) (a' := ?_) (bl_ 31 183500799) rfl rfl (take_ofW HT_.out HW_.out (by kernel_rfl)) (fun _ _ _ h => h) (Or.inl ⟨by rfl, ?_⟩) hHeld ?_ ?_; rotate_left; { rintro w' ⟨s0, s1, s2⟩; go_simp; with_reducible rfl }; rotate_left; { simp only [Act.put, List.setIfInBounds_toArray, List.set_cons_zero, List.set_cons_succ, i64_w, i32_w]; rfl }
       refine take_ (i := 24) (N := some 122) (v := ?_) (a' := ?_) (bl_ 31 200278015) rfl rfl (take_ofW HT_.out HW_.out (by kernel_rfl)) (fun _ _ _ h => h) (Or.inl ⟨by rfl, ?_⟩) hHeld ?_ ?_; rotate_left; { rintro w' ⟨s0, s1, s2⟩; go_simp; with_reducible rfl }; rotate_left; { simp only [Act.put, List.setIfInBounds_toArray, List.set_cons_zero, List.set_cons_succ, i64_w, i32_w]; rfl }
       refine take_ (i := 26) (N := some 124) (v := ?_) (a' := ?_) (bl_ 31 267386879) rfl rfl (take_ofW HT_.out HW_.out (by kernel_rfl)) (fun _ _ _ h => h) (Or.inl ⟨by rfl, ?_⟩) hHeld ?_ ?_; rotate_left; { rintro w' ⟨s0, s1, s2⟩; go_simp; with_reducible rfl }; rotate_left; { simp only [Act.put, List.setIfInBounds_toArray, List.set_cons_zero, List.set_cons_succ, i64_w, i32_w]; rfl }
       refine one_ (i := 20) (N := some 118) (bl_ 31 268435455) rfl rfl (one_of HT_.out (by kernel_rfl)) (by decide) (fun K hK => ?_)
       refine goes_ Tryd.func42 (by kernel_rfl) rfl #[.pointer (some ado31), .int .i64 a1] (by rfl) rfl rfl (by (try simp only [List.map_toArray, List.map_cons, List.map_nil]); first | done | rfl | (simp only [List.length_drop, List.length_take]; rfl)) ?_
       with_reducible refine (view_File_Word.calls _ co31 t319 a1 t335 _ ?side1 ?side2 A18.out).mono ?_
       (case side1 => repeat (first | exact (Kd.V_reads' HO321.out).2.2 | (with_reducible refine Kd.C_alloc ?_ _) | (with_reducible refine Kd.C_drewN ?_ _) | (with_reducible refine Kd.C_drew ?_)))
       (case side2 => exact (Kd.V_reads' HO321.out).2.1)
       rintro e w44 ⟨rfl, hb⟩
       refine ⟨_, rfl, ?_⟩
       have n0_ := Aside0.mk (Kd.V_below (go_V HO312.out) hb)
       have n1_ := Aside0.mk (Kd.V_below (go_V HO315.out) hb)
       have n2_ := Aside0.mk (Kd.V_below (go_V HO318.out) hb)
       have n3_ := Aside0.mk (Kd.V_below (go_V HO321.out) hb)
       have n4_ := Aside0.mk (Kd.R_below (go_R HO329.out) hb)
       have n5_ := Aside0.mk (Kd.R_below (go_R HO332.out) hb)
       have n6_ := Aside0.mk (blk_below (g := gb309) (o := .cells #[.slice Ao24 t310.length co24, .slice Ao26 t313.length co26, .slice Ao27 t316.length co27] 68 (0, 0)) (go_k BK309.out) hb)
       have n7_ := Aside0.mk (below_step (go_b1 HB.out GE309.out) hb)
       clear HO312
       clear HO315
       clear HO318
       clear HO321
       clear HO329
       clear HO332
       clear BK309
       clear HB
       have HO312 := n0_
       have HO315 := n1_
       have HO318 := n2_
       have HO321 := n3_
       have HO329 := n4_
       have HO332 := n5_
       have BK309 := n6_
       have HB := n7_
       clear n0_ n1_ n2_ n3_ n4_ n5_ n6_ n7_
       (try clear hb)
       (try clear hb2)
       (try clear hk)
       (try clear hi)
       refine hK.out _ _ ⟨(blk_cell BK309.out 0).trans rfl, (blk_cell BK309.out 1).trans rfl, (blk_cell BK309.out 2).trans rfl⟩ (fun hHeld => ?_)
       clear hK K
       refine norm_ (a' := ?_) ?_ ?_; rotate_left; { show Act.put _ (some 118) _ = _; simp only [Act.put, List.setIfInBounds_toArray, List.set_cons_zero, List.set_cons_succ, i64_w, i32_w]; rfl }
       refine one_ (i := 28) (N := some 126) (bl_ 31 536870911) rfl rfl (one_of HT_.out (by kernel_rfl)) (by decide) (fun K hK => ?_)
       refine goes_ Tryd.func48 (by kernel_rfl) rfl #[.slice Ao24 t310.length co24, .slice Ao26 t313.length co26, .agg #[.slice Ao27 t316.length co27], .int .i64 a1] (by rfl) rfl rfl (by (try simp only [List.map_toArray, List.map_cons, List.map_nil]); first | done | rfl | (simp only [List.length_drop, List.length_take]; rfl)) ?_
       with_reducible refine (cavilref15_Word.calls k _ _ t310 _ _ t313 _ _ t316 a1 t336 _ ?side1 ?side2 ?side3 ?side4 ?side5 ?side6 A19.out).mono ?_
       (case side1 => repeat (first | exact (Kd.V_reads' HO312.out).2.2 | (with_reducible refine Kd.C_alloc ?_ _) | (with_reducible refine Kd.C_drewN ?_ _) | (with_reducible refine Kd.C_drew ?_)))
       (case side2 => exact (Kd.V_reads' HO312.out).2.1)
       (case side3 => repeat (first | exact (Kd.V_reads' HO315.out).2.2 | (with_reducible refine Kd.C_alloc ?_ _) | (with_reducible refine Kd.C_drewN ?_ _) | (with_reducible refine Kd.C_drew ?_)))
       (case side4 => exact (Kd.V_reads' HO315.out).2.1)
       (case side5 => repeat (first | exact (Kd.V_reads' HO318.out).2.2 | (with_reducible refine Kd.C_alloc ?_ _) | (with_reducible refine Kd.C_drewN ?_ _) | (with_reducible refine Kd.C_drew ?_)))
       (case side6 => exact (Kd.V_reads' HO318.out).2.1)
       rintro e w45 ⟨rfl, hb⟩
       refine ⟨_, rfl, ?_⟩
       have n0_ := Aside0.mk (Kd.V_below (go_V HO312.out) hb)
       have n1_ := Aside0.mk (Kd.V_below (go_V HO315.out) hb)
       have n2_ := Aside0.mk (Kd.V_below (go_V HO318.out) hb)
       have n3_ := Aside0.mk (Kd.V_below (go_V HO321.out) hb)
       have n4_ := Aside0.mk (Kd.R_below (go_R HO329.out) hb)
       have n5_ := Aside0.mk (Kd.R_below (go_R HO332.out) hb)
       have n6_ := Aside0.mk (blk_below (g := gb309) (o := .cells #[.slice Ao24 t310.length co24, .slice Ao26 t313.length co26, .slice Ao27 t316.length co27] 68 (0, 0)) (go_k BK309.out) hb)
       have n7_ := Aside0.mk (below_step (go_b1 HB.out GE309.out) hb)
       clear HO312
       clear HO315
       clear HO318
       clear HO321
       clear HO329
       clear HO332
       clear BK309
       clear HB
       have HO312 := n0_
       have HO315 := n1_
       have HO318 := n2_
       have HO321 := n3_
       have HO329 := n4_
       have HO332 := n5_
       have BK309 := n6_
       have HB := n7_
       clear n0_ n1_ n2_ n3_ n4_ n5_ n6_ n7_
       (try clear hb)
       (try clear hb2)
       (try clear hk)
       (try clear hi)
       refine hK.out _ _ ⟨(blk_cell BK309.out 0).trans rfl, (blk_cell BK309.out 1).trans rfl, (blk_cell BK309.out 2).trans rfl⟩ (fun hHeld => ?_)
       clear hK K
       refine norm_ (a' := ?_) ?_ ?_; rotate_left; { show Act.put _ (some 126) _ = _; simp only [Act.put, List.setIfInBounds_toArray, List.set_cons_zero, List.set_cons_succ, i64_w, i32_w]; rfl }
       refine pure_ (i := 29) (N := some 127) (v := ?_) (a' := ?_) (bl_ 31 1073741823) rfl rfl (any_of HT_.out (by kernel_rfl)) (fun _ _ _ h => h) (Or.inl ⟨by rfl, ?_⟩) ?_ ?_; rotate_left; { intro w'; go_simp; with_reducible rfl }; rotate_left; { simp only [Act.put, List.setIfInBounds_toArray, List.set_cons_zero, List.set_cons_succ, i64_w, i32_w]; rfl }
       refine pure_ (i := 30) (N := some 128) (v := ?_) (a' := ?_) (bl_ 31 2147483647) rfl rfl (any_of HT_.out (by kernel_rfl)) (fun _ _ _ h => h) (Or.inl ⟨by rfl, ?_⟩) ?_ ?_; rotate_left; { intro w'; go_simp; with_reducible rfl }; rotate_left; { simp only [Act.put, List.setIfInBounds_toArray, List.set_cons_zero, List.set_cons_succ, i64_w, i32_w]; rfl }
       refine done_ (done_of HT_.out (by kernel_rfl)) ?_
       try go_wp2
       go_loopg [131] k (fun kq v131 w' => ∃ (x131_1 : Int), v131 = .int .i64 x131_1 ∧ Aside0 (cavillaw15_ViewNodes.l0 kq a1 t319 t327 t330 (t327.length : Int) x131_1 t310 t313 t316 = some r) ∧ Aside0 (kq ≤ k) ∧ Aside0 (Kd.V k100 100 w' w.heap.size (fun k_ => some k_ ≠ ((.slice Ao40 t327.length co40) : Value).ownBlock ∧ some k_ ≠ ((.slice Ao41 t330.length co41) : Value).ownBlock ∧ k_ ≠ gb309) (.slice (some ado31) t319.length co31) t319) ∧ Aside0 (Kd.R (Kd.int .i64) 3 w' w.heap.size (fun k_ => some k_ ≠ ((.slice Ao41 t330.length co41) : Value).ownBlock) (.slice Ao40 t327.length co40) t327) ∧ Aside0 (Kd.R (Kd.int .i64) 3 w' w.heap.size (fun k_ => some k_ ≠ ((.slice Ao40 t327.length co40) : Value).ownBlock) (.slice Ao41 t330.length co41) t330) ∧ Aside0 (Kd.V (Kd.int .u8) 5 w' w.heap.size (fun k_ => some k_ ≠ ((.slice Ao40 t327.length co40) : Value).ownBlock ∧ some k_ ≠ ((.slice Ao41 t330.length co41) : Value).ownBlock ∧ k_ ≠ gb309) (.slice Ao24 t310.length co24) t310) ∧ Aside0 (Kd.V k103 103 w' w.heap.size (fun k_ => some k_ ≠ ((.slice Ao40 t327.length co40) : Value).ownBlock ∧ some k_ ≠ ((.slice Ao41 t330.length co41) : Value).ownBlock ∧ k_ ≠ gb309) (.slice Ao26 t313.length co26) t313) ∧ Aside0 (Kd.V k33 33 w' w.heap.size (fun k_ => some k_ ≠ ((.slice Ao40 t327.length co40) : Value).ownBlock ∧ some k_ ≠ ((.slice Ao41 t330.length co41) : Value).ownBlock ∧ k_ ≠ gb309) (.slice Ao27 t316.length co27) t316) ∧ Aside0 (w'.heap[gb309]? = some (.cells #[(.slice Ao24 t310.length co24), (.slice Ao26 t313.length co26), (.slice Ao27 t316.length co27)] 68 (0, 0))) ∧ Aside0 (Below w.heap.size w w'))
       case atStart => exact ⟨(0), (by first | rfl | (simp; done) | (simp [*]; done)), H', ⟨Nat.le_refl _⟩, ⟨by (with_reducible repeat (first | apply Kd.V_alloc | apply Kd.V_drewN | apply Kd.V_drew)); exact Kd.V_mono HO321.out (fun _ hk => ⟨hk.1.2, ⟨hk.2, hk.1.1⟩⟩)⟩, ⟨by (with_reducible repeat (first | apply Kd.R_alloc | apply Kd.R_drewN | apply Kd.R_drew)); exact Kd.R_mono HO329.out (fun _ hk => hk.2)⟩, ⟨by (with_reducible repeat (first | apply Kd.R_alloc | apply Kd.R_drewN | apply Kd.R_drew)); exact Kd.R_mono HO332.out (fun _ hk => hk.2)⟩, ⟨by (with_reducible repeat (first | apply Kd.V_alloc | apply Kd.V_drewN | apply Kd.V_drew)); exact Kd.V_mono HO312.out (fun _ hk => ⟨hk.1.2, ⟨hk.2, hk.1.1⟩⟩)⟩, ⟨by (with_reducible repeat (first | apply Kd.V_alloc | apply Kd.V_drewN | apply Kd.V_drew)); exact Kd.V_mono HO315.out (fun _ hk => ⟨hk.1.2, ⟨hk.2, hk.1.1⟩⟩)⟩, ⟨by (with_reducible repeat (first | apply Kd.V_alloc | apply Kd.V_drewN | apply Kd.V_drew)); exact Kd.V_mono HO318.out (fun _ hk => ⟨hk.1.2, ⟨hk.2, hk.1.1⟩⟩)⟩, ⟨by (with_reducible repeat (first | refine blk_drewN ?_ _ | refine blk_drew ?_ | refine blk_alloc ?_ _)); exact BK309.out⟩, ⟨by repeat (first | (with_reducible first | exact HB.out | apply below_alloc | apply pw_below_drewN | apply below_drew1 | refine below_set ?_ GE309.out) | exact HB.out)⟩⟩
       case round =>
        clear H'
        try clear c1
        try clear c2
        try clear p2
        try clear c3
        try clear c4
        try clear c9
        try clear c12
        try clear c20
        try clear c20b0
        try clear c20b1
        try clear c38
        try clear c39
        try clear c41
        try clear c42
        try clear c44
        try clear hcz22_0
        try clear hcz22_1
        try clear hcz22_2
        try clear hcz25_0
        try clear hcz25_1
        try clear hcz25_2
        try clear hcz29_0
        try clear hcz29_1
        try clear hcz29_2
        try clear hcz32_0
        try clear hcz32_1
        try clear hcz32_2
        try clear hfz22_0
        try clear hfz22_1
        try clear hfz22_2
        try clear hfz25_0
        try clear hfz25_1
        try clear hfz25_2
        try clear hfz29_0
        try clear hfz29_1
        try clear hfz29_2
        try clear hfz32_0
        try clear hfz32_1
        try clear hfz32_2
        obtain ⟨x131_1, rfl, HA, HK1, HO_7, HO_11, HO_12, HO_310000, HO_310001, HO_310002, BK309, HB⟩ := hrel
        cases gk with
        | zero => exact absurd HA.out (by simp [cavillaw15_ViewNodes.l0])
        | succ k1 =>
         have H := HA.out
         clear HA
         simp only [cavillaw15_ViewNodes.l0] at H
         by_cases c46 : x131_1 < (t327.length : Int)
         ·rw [if_pos c46] at H
          have c46b0 : decide (x131_1 < (t327.length : Int)) = true := decide_eq_true c46
          clear c46
          by_cases c47 : 0 ≤ x131_1
          ·rw [if_pos c47] at H
           have c47b0 : decide (0 ≤ x131_1) = true := decide_eq_true c47
           clear c47
           by_cases c48 : x131_1 < (t327.length : Int)
           ·rw [if_pos c48] at H
            have c48b0 : decide (x131_1 < (t327.length : Int)) = true := decide_eq_true c48
            clear c48
            by_cases c49 : x131_1 < (t330.length : Int)
            ·rw [if_pos c49] at H
             have c49b0 : decide (x131_1 < (t330.length : Int)) = true := decide_eq_true c49
             clear c49
             by_cases c50 : (rd t327 x131_1) = (rd t330 x131_1)
             ·rw [if_pos c50] at H
              have c50b0 : ((rd t327 x131_1) == (rd t330 x131_1)) = true := beq_iff_eq.mpr c50
              have c50b1 : ((rd t327 x131_1) != (rd t330 x131_1)) = false := bne_eq_false_iff_eq.mpr c50
              clear c50
              have H' := Aside0.mk H
              clear H
              try go_wp2
              have n0_ := Aside0.mk (Kd.V_drew HO_7.out)
              have n1_ := Aside0.mk (Kd.R_drew HO_11.out)
              have n2_ := Aside0.mk (Kd.R_drew HO_12.out)
              have n3_ := Aside0.mk (Kd.V_drew HO_310000.out)
              have n4_ := Aside0.mk (Kd.V_drew HO_310001.out)
              have n5_ := Aside0.mk (Kd.V_drew HO_310002.out)
              have n6_ := Aside0.mk (blk_drew BK309.out)
              have n7_ := Aside0.mk (below_drew1 HB.out)
              clear HO_7
              clear HO_11
              clear HO_12
              clear HO_310000
              clear HO_310001
              clear HO_310002
              clear BK309
              clear HB
              have HO_7 := n0_
              have HO_11 := n1_
              have HO_12 := n2_
              have HO_310000 := n3_
              have HO_310001 := n4_
              have HO_310002 := n5_
              have BK309 := n6_
              have HB := n7_
              clear n0_ n1_ n2_ n3_ n4_ n5_ n6_ n7_
              have p337 : 0 ≤ (x131_1 : Int) := of_dec
              have q337 : x131_1 < (t327.length : Int) := of_dec
              obtain ⟨ad337, e337, hx337_0⟩ := Kd.at_int (Kd.R_reads' HO_11.out).2.2 x131_1 p337 q337
              cases e337
              replace p337 := eq_true p337
              replace q337 := eq_true q337
              have p338 : 0 ≤ (x131_1 : Int) := of_dec
              have q338 : x131_1 < (t330.length : Int) := of_dec
              obtain ⟨ad338, e338, hx338_0⟩ := Kd.at_int (Kd.R_reads' HO_12.out).2.2 x131_1 p338 q338
              cases e338
              replace p338 := eq_true p338
              replace q338 := eq_true q338
              refine start_ (n := 9) (S := fun w' => w'.cell? (ad337.add (x131_1).toNat) = some (.int .i64 (rd t327 x131_1)) ∧ w'.cell? (ad338.add (x131_1).toNat) = some (.int .i64 (rd t330 x131_1))) (ds := []) #[false, false, false, false, false, false, false, false, false] (by kernel_rfl) rfl rfl ⟨hx337_0, hx338_0⟩ (fun hHeld => ?_); refine with_tabW cavillaw15_ViewNodes.tab14 cavillaw15_ViewNodes.bits14 (fun HT_ HW_ => ?_)
              generalize wr.drew = w51 at HO_7 HO_11 HO_12 HO_310000 HO_310001 HO_310002 BK309 HB hx337_0 hx338_0 hHeld ⊢
              refine pure_ (i := 0) (N := some 134) (v := ?_) (a' := ?_) #[true, false, false, false, false, false, false, false, false] rfl rfl (any_of HT_.out (by kernel_rfl)) (fun _ _ _ h => h) (Or.inl ⟨by rfl, ?_⟩) ?_ ?_; rotate_left; { intro w'; go_simp; with_reducible rfl }; rotate_left; { simp only [Act.put, List.setIfInBounds_toArray, List.set_cons_zero, List.set_cons_succ, i64_w, i32_w]; rfl }
              refine pure_ (i := 1) (N := some 135) (v := ?_) (a' := ?_) #[true, true, false, false, false, false, false, false, false] rfl rfl (any_of HT_.out (by kernel_rfl)) (fun _ _ _ h => h) (Or.inl ⟨by rfl, ?_⟩) ?_ ?_; rotate_left; { intro w'; go_simp; with_reducible rfl }; rotate_left; { simp only [Act.put, List.setIfInBounds_toArray, List.set_cons_zero, List.set_cons_succ, i64_w, i32_w]; rfl }
              refine pure_ (i := 2) (N := some 136) (v := ?_) (a' := ?_) #[true, true, true, false, false, false, false, false, false] rfl rfl (any_of HT_.out (by kernel_rfl)) (fun _ _ _ h => h) (Or.inl ⟨by rfl, ?_⟩) ?_ ?_; rotate_left; { intro w'; go_simp; with_reducible rfl }; rotate_left; { simp only [Act.put, List.setIfInBounds_toArray, List.set_cons_zero, List.set_cons_succ, i64_w, i32_w]; rfl }
              refine pure_ (i := 4) (N := some 138) (v := ?_) (a' := ?_) #[true, true, true, false, true, false, false, false, false] rfl rfl (any_of HT_.out (by kernel_rfl)) (fun _ _ _ h => h) (Or.inl ⟨by rfl, ?_⟩) ?_ ?_; rotate_left; { intro w'; go_simp; with_reducible rfl }; rotate_left; { simp only [Act.put, List.setIfInBounds_toArray, List.set_cons_zero, List.set_cons_succ, i64_w, i32_w]; rfl }
              refine pure_ (i := 5) (N := some 139) (v := ?_) (a' := ?_) #[true, true, true, false, true, true, false, false, false] rfl rfl (any_of HT_.out (by kernel_rfl)) (fun _ _ _ h => h) (Or.inl ⟨by rfl, ?_⟩) ?_ ?_; rotate_left; { intro w'; go_simp; with_reducible rfl }; rotate_left; { simp only [Act.put, List.setIfInBounds_toArray, List.set_cons_zero, List.set_cons_succ, i64_w, i32_w]; rfl }
              refine pure_ (i := 6) (N := some 140) (v := ?_) (a' := ?_) #[true, true, true, false, true, true, true, false, false] rfl rfl (any_of HT_.out (by kernel_rfl)) (fun _ _ _ h => h) (Or.inl ⟨by rfl, ?_⟩) ?_ ?_; rotate_left; { intro w'; go_simp; with_reducible rfl }; rotate_left; { simp only [Act.put, List.setIfInBounds_toArray, List.set_cons_zero, List.set_cons_succ, i64_w, i32_w]; rfl }
              refine take_ (i := 3) (N := some 137) (v := ?_) (a' := ?_) #[true, true, true, true, true, true, true, false, false] rfl rfl (take_ofW HT_.out HW_.out (by kernel_rfl)) (fun _ _ _ h => h) (Or.inl ⟨by rfl, ?_⟩) hHeld ?_ ?_; rotate_left; { rintro w' ⟨s0, s1⟩; go_simp; with_reducible rfl }; rotate_left; { simp only [Act.put, List.setIfInBounds_toArray, List.set_cons_zero, List.set_cons_succ, i64_w, i32_w]; rfl }
              refine take_ (i := 7) (N := some 141) (v := ?_) (a' := ?_) #[true, true, true, true, true, true, true, true, false] rfl rfl (take_ofW HT_.out HW_.out (by kernel_rfl)) (fun _ _ _ h => h) (Or.inl ⟨by rfl, ?_⟩) hHeld ?_ ?_; rotate_left; { rintro w' ⟨s0, s1⟩; go_simp; with_reducible rfl }; rotate_left; { simp only [Act.put, List.setIfInBounds_toArray, List.set_cons_zero, List.set_cons_succ, i64_w, i32_w]; rfl }
              refine pure_ (i := 8) (N := some 142) (v := ?_) (a' := ?_) #[true, true, true, true, true, true, true, true, true] rfl rfl (any_of HT_.out (by kernel_rfl)) (fun _ _ _ h => h) (Or.inl ⟨by rfl, ?_⟩) ?_ ?_; rotate_left; { intro w'; go_simp; with_reducible rfl }; rotate_left; { simp only [Act.put, List.setIfInBounds_toArray, List.set_cons_zero, List.set_cons_succ, i64_w, i32_w]; rfl }
              refine done_ (done_of HT_.out (by kernel_rfl)) ?_
              try go_wp2
              go_roundg k1
              case measure => have := HK1.out; omega
              case rel => exact ⟨(wrap64 (x131_1 + 1)), (by first | rfl | (simp; done) | (simp [*]; done)), H', ⟨by have := HK1.out; omega⟩, ⟨by (with_reducible repeat (first | apply Kd.V_alloc | apply Kd.V_drewN | apply Kd.V_drew)); exact HO_7.out⟩, ⟨by (with_reducible repeat (first | apply Kd.R_alloc | apply Kd.R_drewN | apply Kd.R_drew)); exact HO_11.out⟩, ⟨by (with_reducible repeat (first | apply Kd.R_alloc | apply Kd.R_drewN | apply Kd.R_drew)); exact HO_12.out⟩, ⟨by (with_reducible repeat (first | apply Kd.V_alloc | apply Kd.V_drewN | apply Kd.V_drew)); exact HO_310000.out⟩, ⟨by (with_reducible repeat (first | apply Kd.V_alloc | apply Kd.V_drewN | apply Kd.V_drew)); exact HO_310001.out⟩, ⟨by (with_reducible repeat (first | apply Kd.V_alloc | apply Kd.V_drewN | apply Kd.V_drew)); exact HO_310002.out⟩, ⟨by (with_reducible repeat (first | refine blk_drewN ?_ _ | refine blk_drew ?_ | refine blk_alloc ?_ _)); exact BK309.out⟩, ⟨by repeat (first | (with_reducible first | exact HB.out | apply below_alloc | apply pw_below_drewN | apply below_drew1 | refine below_set ?_ GE309.out) | exact HB.out)⟩⟩
             ·rw [if_neg c50] at H
              have c50b0 : ((rd t327 x131_1) == (rd t330 x131_1)) = false := beq_eq_false_iff_ne.mpr c50
              have c50b1 : ((rd t327 x131_1) != (rd t330 x131_1)) = true := bne_iff_ne.mpr c50
              exact absurd ((Option.some.inj H).trans HRT.out) (by decide)
            ·rw [if_neg c49] at H
             exact absurd H (by simp)
           ·rw [if_neg c48] at H
            exact absurd H (by simp)
          ·rw [if_neg c47] at H
           exact absurd H (by simp)
         ·rw [if_neg c46] at H
          have c46b0 : decide (x131_1 < (t327.length : Int)) = false := decide_eq_false c46
          clear c46
          replace H := Option.bind_eq_some_iff.mp H
          obtain ⟨⟨t339, t340, t341, t342⟩, A520, H⟩ := H
          replace H : ((view_File_Words.f k1 t319 a1).bind fun t346 => ((cavilref15_In.f t316 a1).bind fun t349 => (if t349 = true then (if 0 ≤ a1 then (if a1 < (t316.length : Int) then (if t339 = ((rd_T33 t316 a1).f0) then (if t340 = ((rd_T33 t316 a1).f1) then (if t341 = ((rd_T33 t316 a1).f2) then (if (t342.length : Int) = (((rd_T33 t316 a1).f3).length : Int) then (if (t346.length : Int) = (((rd_T33 t316 a1).f3).length : Int) then (cavillaw15_ViewNodes.l1 k1 t346 (t346.length : Int) 0 t310 t313 t316 ((rd_T33 t316 a1).f0) ((rd_T33 t316 a1).f1) ((rd_T33 t316 a1).f2) ((rd_T33 t316 a1).f3)) else (some false)) else (some false)) else (some false)) else (some false)) else (some false)) else (none)) else (none)) else (if t339 = 0 then (if (wrap64 ((t342.length : Int) + (t346.length : Int))) = 0 then (if t341 = 0 then ((cavillaw15_works.f k1).bind fun t356 => (some t356)) else (some false)) else (some false)) else (some false))))) = some r := H
          have A52 := Aside0.mk A520
          clear A520
          replace H := Option.bind_eq_some_iff.mp H
          obtain ⟨t346, A530, H⟩ := H
          replace H : ((cavilref15_In.f t316 a1).bind fun t349 => (if t349 = true then (if 0 ≤ a1 then (if a1 < (t316.length : Int) then (if t339 = ((rd_T33 t316 a1).f0) then (if t340 = ((rd_T33 t316 a1).f1) then (if t341 = ((rd_T33 t316 a1).f2) then (if (t342.length : Int) = (((rd_T33 t316 a1).f3).length : Int) then (if (t346.length : Int) = (((rd_T33 t316 a1).f3).length : Int) then (cavillaw15_ViewNodes.l1 k1 t346 (t346.length : Int) 0 t310 t313 t316 ((rd_T33 t316 a1).f0) ((rd_T33 t316 a1).f1) ((rd_T33 t316 a1).f2) ((rd_T33 t316 a1).f3)) else (some false)) else (some false)) else (some false)) else (some false)) else (some false)) else (none)) else (none)) else (if t339 = 0 then (if (wrap64 ((t342.length : Int) + (t346.length : Int))) = 0 then (if t341 = 0 then ((cavillaw15_works.f k1).bind fun t356 => (some t356)) else (some false)) else (some false)) else (some false)))) = some r := H
          have A53 := Aside0.mk A530
          clear A530
          replace H := Option.bind_eq_some_iff.mp H
          obtain ⟨t349, A540, H⟩ := H
          replace H : (if t349 = true then (if 0 ≤ a1 then (if a1 < (t316.length : Int) then (if t339 = ((rd_T33 t316 a1).f0) then (if t340 = ((rd_T33 t316 a1).f1) then (if t341 = ((rd_T33 t316 a1).f2) then (if (t342.length : Int) = (((rd_T33 t316 a1).f3).length : Int) then (if (t346.length : Int) = (((rd_T33 t316 a1).f3).length : Int) then (cavillaw15_ViewNodes.l1 k1 t346 (t346.length : Int) 0 t310 t313 t316 ((rd_T33 t316 a1).f0) ((rd_T33 t316 a1).f1) ((rd_T33 t316 a1).f2) ((rd_T33 t316 a1).f3)) else (some false)) else (some false)) else (some false)) else (some false)) else (some false)) else (none)) else (none)) else (if t339 = 0 then (if (wrap64 ((t342.length : Int) + (t346.length : Int))) = 0 then (if t341 = 0 then ((cavillaw15_works.f k1).bind fun t356 => (some t356)) else (some false)) else (some false)) else (some false))) = some r := H
          have A54 := Aside0.mk A540
          clear A540
          by_cases c55 : t349 = true
          ·subst c55
           have H1 : (if 0 ≤ a1 then (if a1 < (t316.length : Int) then (if t339 = ((rd_T33 t316 a1).f0) then (if t340 = ((rd_T33 t316 a1).f1) then (if t341 = ((rd_T33 t316 a1).f2) then (if (t342.length : Int) = (((rd_T33 t316 a1).f3).length : Int) then (if (t346.length : Int) = (((rd_T33 t316 a1).f3).length : Int) then (cavillaw15_ViewNodes.l1 k1 t346 (t346.length : Int) 0 t310 t313 t316 ((rd_T33 t316 a1).f0) ((rd_T33 t316 a1).f1) ((rd_T33 t316 a1).f2) ((rd_T33 t316 a1).f3)) else (some false)) else (some false)) else (some false)) else (some false)) else (some false)) else (none)) else (none)) = some r := by rw [if_pos rfl] at H; exact H
           clear H
           have H := H1
           clear H1
           by_cases c56 : 0 ≤ a1
           ·rw [if_pos c56] at H
            have c56b0 : decide (0 ≤ a1) = true := decide_eq_true c56
            clear c56
            by_cases c57 : a1 < (t316.length : Int)
            ·rw [if_pos c57] at H
             have c57b0 : decide (a1 < (t316.length : Int)) = true := decide_eq_true c57
             clear c57
             by_cases c58 : t339 = ((rd_T33 t316 a1).f0)
             ·rw [if_pos c58] at H
              have c58b0 : (t339 == ((rd_T33 t316 a1).f0)) = true := beq_iff_eq.mpr c58
              have c58b1 : (t339 != ((rd_T33 t316 a1).f0)) = false := bne_eq_false_iff_eq.mpr c58
              clear c58
              by_cases c59 : t340 = ((rd_T33 t316 a1).f1)
              ·rw [if_pos c59] at H
               have c59b0 : (t340 == ((rd_T33 t316 a1).f1)) = true := beq_iff_eq.mpr c59
               have c59b1 : (t340 != ((rd_T33 t316 a1).f1)) = false := bne_eq_false_iff_eq.mpr c59
               clear c59
               by_cases c60 : t341 = ((rd_T33 t316 a1).f2)
               ·rw [if_pos c60] at H
                have c60b0 : (t341 == ((rd_T33 t316 a1).f2)) = true := beq_iff_eq.mpr c60
                have c60b1 : (t341 != ((rd_T33 t316 a1).f2)) = false := bne_eq_false_iff_eq.mpr c60
                clear c60
                by_cases c61 : (t342.length : Int) = (((rd_T33 t316 a1).f3).length : Int)
                ·rw [if_pos c61] at H
                 have c61b0 : ((t342.length : Int) == (((rd_T33 t316 a1).f3).length : Int)) = true := beq_iff_eq.mpr c61
                 have c61b1 : ((t342.length : Int) != (((rd_T33 t316 a1).f3).length : Int)) = false := bne_eq_false_iff_eq.mpr c61
                 have c61b2 : (t342.length == ((rd_T33 t316 a1).f3).length) = true := by first | simpa using c61 | (simp at c61 ⊢; omega)
                 clear c61
                 by_cases c62 : (t346.length : Int) = (((rd_T33 t316 a1).f3).length : Int)
                 ·rw [if_pos c62] at H
                  have c62b0 : ((t346.length : Int) == (((rd_T33 t316 a1).f3).length : Int)) = true := beq_iff_eq.mpr c62
                  have c62b1 : ((t346.length : Int) != (((rd_T33 t316 a1).f3).length : Int)) = false := bne_eq_false_iff_eq.mpr c62
                  have c62b2 : (t346.length == ((rd_T33 t316 a1).f3).length) = true := by first | simpa using c62 | (simp at c62 ⊢; omega)
                  clear c62
                  have H' := Aside0.mk H
                  clear H
                  go_wp2_with (first | ((with_reducible refine gate_callee (f := 40) rfl ?_); refine goesL_ (some 146) rfl rfl Tryd.func40 (by kernel_rfl) rfl #[.pointer (some ado31), .int .i64 a1] rfl (by (try simp only [List.map_toArray, List.map_cons, List.map_nil]); first | done | rfl | (simp only [List.length_drop, List.length_take]; rfl)) ?_; (with_reducible refine (view_File_Node.calls (fun k_ => (some k_ ≠ (.slice Ao40 t327.length co40 : Value).ownBlock ∧ (some k_ ≠ (.slice Ao41 t330.length co41 : Value).ownBlock ∧ k_ ≠ gb309))) _ co31 t319 a1 t339 t340 t341 t342 _ ?side1 A52.out).mono ?_); (case side1 => exact HO_7.out); rintro e w63 ⟨v343, rfl, ho0, hb⟩; refine ⟨_, rfl, ?_⟩; have n0_ := Aside0.mk (Kd.V_below (go_V HO_7.out) hb); have n1_ := Aside0.mk (Kd.R_below (go_R HO_11.out) hb); have n2_ := Aside0.mk (Kd.R_below (go_R HO_12.out) hb); have n3_ := Aside0.mk (Kd.V_below (go_V HO_310000.out) hb); have n4_ := Aside0.mk (Kd.V_below (go_V HO_310001.out) hb); have n5_ := Aside0.mk (Kd.V_below (go_V HO_310002.out) hb); have n6_ := Aside0.mk (Kd.V_lower (Kd.V_mono (ok' := fun k_ => some k_ ≠ (.slice Ao40 t327.length co40 : Value).ownBlock ∧ some k_ ≠ (.slice Ao41 t330.length co41 : Value).ownBlock ∧ k_ ≠ gb309) ho0 (fun k_ hk_ => ⟨Or.elim hk_ (fun hs_ => hs_.1) (fun hn_ => (Kd.fresh' (Kd.R_lt (go_R HO_11.out)) k_ hn_)), Or.elim hk_ (fun hs_ => hs_.2.1) (fun hn_ => (Kd.fresh' (Kd.R_lt (go_R HO_12.out)) k_ hn_)), Or.elim hk_ (fun hs_ => hs_.2.2) (fun hn_ => (Kd.freshB (g := gb309) (o := .cells #[.slice Ao24 t310.length co24, .slice Ao26 t313.length co26, .slice Ao27 t316.length co27] 68 (0, 0)) (go_k BK309.out) k_ hn_))⟩)) (below_size (go_b1 HB.out GE309.out))); have n7_ := Aside0.mk (blk_below (g := gb309) (o := .cells #[.slice Ao24 t310.length co24, .slice Ao26 t313.length co26, .slice Ao27 t316.length co27] 68 (0, 0)) (go_k BK309.out) hb); have n8_ := Aside0.mk (below_step (go_b1 HB.out GE309.out) hb); clear HO_7; clear HO_11; clear HO_12; clear HO_310000; clear HO_310001; clear HO_310002; clear BK309; clear HB; have HO_7 := n0_; have HO_11 := n1_; have HO_12 := n2_; have HO_310000 := n3_; have HO_310001 := n4_; have HO_310002 := n5_; have HO344 := n6_; have BK309 := n7_; have HB := n8_; clear n0_ n1_ n2_ n3_ n4_ n5_ n6_ n7_ n8_; (try clear hb); (try clear hb2); (try clear hk); (try clear hi); (try clear ho0)) | ((with_reducible refine gate_dst (N := 14) rfl ?_); (try (refine gate_guard (by rfl) ?_; dsimp only)); refine box_event ?hg (N := 14) ?hd (cs := #[.int .i64 0, .int .i64 0, .int .i64 0, .slice none 0 0]) (t := 33) ?hr ?_; (case hd => rfl); (case hg => rfl); (case hr => first | (go_simp; done) | (go_simp; rfl)); intro gb345 hg w64 hbox hb; have n0_ := Aside0.mk (Kd.V_below (Kd.V_elderB (go_V HO_7.out) gb345 (Nat.le_of_eq hg.symm)) hb); have n1_ := Aside0.mk (Kd.R_below (go_R HO_11.out) hb); have n2_ := Aside0.mk (Kd.R_below (go_R HO_12.out) hb); have n3_ := Aside0.mk (Kd.V_below (Kd.V_elderB (go_V HO_310000.out) gb345 (Nat.le_of_eq hg.symm)) hb); have n4_ := Aside0.mk (Kd.V_below (Kd.V_elderB (go_V HO_310001.out) gb345 (Nat.le_of_eq hg.symm)) hb); have n5_ := Aside0.mk (Kd.V_below (Kd.V_elderB (go_V HO_310002.out) gb345 (Nat.le_of_eq hg.symm)) hb); have n6_ := Aside0.mk (Kd.V_below (Kd.V_elderB (go_V HO344.out) gb345 (Nat.le_of_eq hg.symm)) hb); have n7_ := Aside0.mk (blk_below (g := gb309) (o := .cells #[.slice Ao24 t310.length co24, .slice Ao26 t313.length co26, .slice Ao27 t316.length co27] 68 (0, 0)) (go_k BK309.out) hb); have n8_ := Aside0.mk (below_step (go_b1 HB.out GE309.out) hb); have n9_ := Aside0.mk (hbox); have n10_ := Aside0.mk ((by rw [hg]; exact (below_size (go_b1 HB.out GE309.out)) : w.heap.size ≤ gb345)); have n11_ := Aside0.mk ((by rw [hg]; exact (below_size (go_b1 HB.out GE309.out)) : w.heap.size ≤ gb345)); have n12_ := Aside0.mk ((by rw [hg]; exact Nat.ne_of_lt (blk_lt (g := gb309) (o := .cells #[.slice Ao24 t310.length co24, .slice Ao26 t313.length co26, .slice Ao27 t316.length co27] 68 (0, 0)) (go_k BK309.out)) : gb309 ≠ gb345)); have n13_ := Aside0.mk ((by rw [hg]; exact Nat.ne_of_gt (blk_lt (g := gb309) (o := .cells #[.slice Ao24 t310.length co24, .slice Ao26 t313.length co26, .slice Ao27 t316.length co27] 68 (0, 0)) (go_k BK309.out)) : gb345 ≠ gb309)); clear HO_7; clear HO_11; clear HO_12; clear HO_310000; clear HO_310001; clear HO_310002; clear HO344; clear BK309; clear HB; have HO_7 := n0_; have HO_11 := n1_; have HO_12 := n2_; have HO_310000 := n3_; have HO_310001 := n4_; have HO_310002 := n5_; have HO344 := n6_; have BK309 := n7_; have HB := n8_; have BK345 := n9_; have GW345 := n10_; have GE345 := n11_; have NB309_345 := n12_; have NB345_309 := n13_; clear n0_ n1_ n2_ n3_ n4_ n5_ n6_ n7_ n8_ n9_ n10_ n11_ n12_ n13_; clear hb hbox hg; have hnb65 := NB345_309.out; have hnc65 := NB309_345.out; have hcz66_0 : w64.cell? ⟨gb345, 0, none⟩ = some (.int .i64 0) := (blk_cell BK345.out 0).trans rfl; have hcz66_1 : w64.cell? ⟨gb345, 1, none⟩ = some (.int .i64 0) := (blk_cell BK345.out 1).trans rfl; have hcz66_2 : w64.cell? ⟨gb345, 2, none⟩ = some (.int .i64 0) := (blk_cell BK345.out 2).trans rfl; have hcz66_3 : w64.cell? ⟨gb345, 3, none⟩ = some (.slice none 0 0) := (blk_cell BK345.out 3).trans rfl; have hfz66_0 := blk_frozen BK345.out 0; have hfz66_1 := blk_frozen BK345.out 1; have hfz66_2 := blk_frozen BK345.out 2; have hfz66_3 := blk_frozen BK345.out 3; obtain ⟨Ao67, co67, eo67⟩ := Kd.V_slice HO344.out; subst eo67) | ((with_reducible refine gate_callee (f := 43) rfl ?_); refine goesL_ (some 149) rfl rfl Tryd.func43 (by kernel_rfl) rfl #[.pointer (some ado31), .int .i64 a1] rfl (by (try simp only [List.map_toArray, List.map_cons, List.map_nil]); first | done | rfl | (simp only [List.length_drop, List.length_take]; rfl)) ?_; (with_reducible refine (view_File_Words.calls k1 _ co31 t319 a1 t346 _ ?side1 ?side2 A53.out).mono ?_); (case side1 => refine (Kd.V_reads' (e := 100) (base := w.heap.size) (ok := fun k_ => ((some k_ ≠ (.slice Ao40 t327.length co40 : Value).ownBlock ∧ (some k_ ≠ (.slice Ao41 t330.length co41 : Value).ownBlock ∧ k_ ≠ gb309)) ∧ k_ ≠ gb345)) (n := t319.length) (c := co31) ?_).2.2; exact (by (with_reducible repeat (first | apply Kd.V_alloc | apply Kd.V_drewN | apply Kd.V_drew)); exact (Kd.V_mono (Kd.V_far (p := ⟨gb345, 3, none⟩) (Kd.V_far (p := ⟨gb345, 2, none⟩) (Kd.V_far (p := ⟨gb345, 1, none⟩) (Kd.V_far (p := ⟨gb345, 0, none⟩) (Kd.V_mono HO_7.out (fun k_ hk => (⟨hk, hk.2⟩ : _ ∧ k_ ≠ gb345))) (fun _ hk => hk.2) (.int .i64 t339)) (fun _ hk => hk.2) (.int .i64 t340)) (fun _ hk => hk.2) (.int .i64 t341)) (fun _ hk => hk.2) (.slice Ao67 t342.length co67)) (fun _ h_ => h_.1)))); (case side2 => exact (Kd.V_reads' HO_7.out).2.1); rintro e w68 ⟨v347, rfl, ho0, hb⟩; refine ⟨_, rfl, ?_⟩; have n0_ := Aside0.mk (Kd.V_elder' (by (with_reducible repeat (first | apply Kd.V_alloc | apply Kd.V_drewN | apply Kd.V_drew)); exact (Kd.V_mono (Kd.V_far (p := ⟨gb345, 3, none⟩) (Kd.V_far (p := ⟨gb345, 2, none⟩) (Kd.V_far (p := ⟨gb345, 1, none⟩) (Kd.V_far (p := ⟨gb345, 0, none⟩) (Kd.V_mono HO_7.out (fun k_ hk => (⟨hk, hk.2⟩ : _ ∧ k_ ≠ gb345))) (fun _ hk => hk.2) (.int .i64 t339)) (fun _ hk => hk.2) (.int .i64 t340)) (fun _ hk => hk.2) (.int .i64 t341)) (fun _ hk => hk.2) (.slice Ao67 t342.length co67)) (fun _ h_ => h_.1))) (Kd.R_base ho0) hb); have n1_ := Aside0.mk (Kd.R_below (by (with_reducible repeat (first | apply Kd.R_alloc | apply Kd.R_drewN | apply Kd.R_drew)); exact (Kd.R_mono (Kd.R_far (p := ⟨gb345, 3, none⟩) (Kd.R_far (p := ⟨gb345, 2, none⟩) (Kd.R_far (p := ⟨gb345, 1, none⟩) (Kd.R_far (p := ⟨gb345, 0, none⟩) (Kd.R_types HO_11.out BK345.out (by decide)) (fun _ hk => hk.2) (.int .i64 t339)) (fun _ hk => hk.2) (.int .i64 t340)) (fun _ hk => hk.2) (.int .i64 t341)) (fun _ hk => hk.2) (.slice Ao67 t342.length co67)) (fun _ h_ => h_.1))) hb); have n2_ := Aside0.mk (Kd.R_below (by (with_reducible repeat (first | apply Kd.R_alloc | apply Kd.R_drewN | apply Kd.R_drew)); exact (Kd.R_mono (Kd.R_far (p := ⟨gb345, 3, none⟩) (Kd.R_far (p := ⟨gb345, 2, none⟩) (Kd.R_far (p := ⟨gb345, 1, none⟩) (Kd.R_far (p := ⟨gb345, 0, none⟩) (Kd.R_types HO_12.out BK345.out (by decide)) (fun _ hk => hk.2) (.int .i64 t339)) (fun _ hk => hk.2) (.int .i64 t340)) (fun _ hk => hk.2) (.int .i64 t341)) (fun _ hk => hk.2) (.slice Ao67 t342.length co67)) (fun _ h_ => h_.1))) hb); have n3_ := Aside0.mk (Kd.V_elder' (by (with_reducible repeat (first | apply Kd.V_alloc | apply Kd.V_drewN | apply Kd.V_drew)); exact (Kd.V_mono (Kd.V_far (p := ⟨gb345, 3, none⟩) (Kd.V_far (p := ⟨gb345, 2, none⟩) (Kd.V_far (p := ⟨gb345, 1, none⟩) (Kd.V_far (p := ⟨gb345, 0, none⟩) (Kd.V_mono HO_310000.out (fun k_ hk => (⟨hk, hk.2⟩ : _ ∧ k_ ≠ gb345))) (fun _ hk => hk.2) (.int .i64 t339)) (fun _ hk => hk.2) (.int .i64 t340)) (fun _ hk => hk.2) (.int .i64 t341)) (fun _ hk => hk.2) (.slice Ao67 t342.length co67)) (fun _ h_ => h_.1))) (Kd.R_base ho0) hb); have n4_ := Aside0.mk (Kd.V_elder' (by (with_reducible repeat (first | apply Kd.V_alloc | apply Kd.V_drewN | apply Kd.V_drew)); exact (Kd.V_mono (Kd.V_far (p := ⟨gb345, 3, none⟩) (Kd.V_far (p := ⟨gb345, 2, none⟩) (Kd.V_far (p := ⟨gb345, 1, none⟩) (Kd.V_far (p := ⟨gb345, 0, none⟩) (Kd.V_mono HO_310001.out (fun k_ hk => (⟨hk, hk.2⟩ : _ ∧ k_ ≠ gb345))) (fun _ hk => hk.2) (.int .i64 t339)) (fun _ hk => hk.2) (.int .i64 t340)) (fun _ hk => hk.2) (.int .i64 t341)) (fun _ hk => hk.2) (.slice Ao67 t342.length co67)) (fun _ h_ => h_.1))) (Kd.R_base ho0) hb); have n5_ := Aside0.mk (Kd.V_elder' (by (with_reducible repeat (first | apply Kd.V_alloc | apply Kd.V_drewN | apply Kd.V_drew)); exact (Kd.V_mono (Kd.V_far (p := ⟨gb345, 3, none⟩) (Kd.V_far (p := ⟨gb345, 2, none⟩) (Kd.V_far (p := ⟨gb345, 1, none⟩) (Kd.V_far (p := ⟨gb345, 0, none⟩) (Kd.V_mono HO_310002.out (fun k_ hk => (⟨hk, hk.2⟩ : _ ∧ k_ ≠ gb345))) (fun _ hk => hk.2) (.int .i64 t339)) (fun _ hk => hk.2) (.int .i64 t340)) (fun _ hk => hk.2) (.int .i64 t341)) (fun _ hk => hk.2) (.slice Ao67 t342.length co67)) (fun _ h_ => h_.1))) (Kd.R_base ho0) hb); have n6_ := Aside0.mk (Kd.V_elder' (by (with_reducible repeat (first | apply Kd.V_alloc | apply Kd.V_drewN | apply Kd.V_drew)); exact (Kd.V_mono (Kd.V_far (p := ⟨gb345, 3, none⟩) (Kd.V_far (p := ⟨gb345, 2, none⟩) (Kd.V_far (p := ⟨gb345, 1, none⟩) (Kd.V_far (p := ⟨gb345, 0, none⟩) (Kd.V_mono HO344.out (fun k_ hk => (⟨hk, hk.2⟩ : _ ∧ k_ ≠ gb345))) (fun _ hk => hk.2) (.int .i64 t339)) (fun _ hk => hk.2) (.int .i64 t340)) (fun _ hk => hk.2) (.int .i64 t341)) (fun _ hk => hk.2) (.slice Ao67 t342.length co67)) (fun _ h_ => h_.1))) (Kd.R_base ho0) hb); have n7_ := Aside0.mk (Kd.R_lower ho0 (below_size (go_b2 HB.out GE309.out GE345.out))); have n8_ := Aside0.mk (blk_below (g := gb309) (o := .cells #[.slice Ao24 t310.length co24, .slice Ao26 t313.length co26, .slice Ao27 t316.length co27] 68 (0, 0)) (by (with_reducible repeat (first | refine blk_drewN ?_ _ | refine blk_drew ?_ | refine blk_alloc ?_ _)); refine blk_far ?_ NB309_345.out _; refine blk_far ?_ NB309_345.out _; refine blk_far ?_ NB309_345.out _; refine blk_far ?_ NB309_345.out _; (with_reducible repeat (first | refine blk_drewN ?_ _ | refine blk_drew ?_ | refine blk_alloc ?_ _)); exact BK309.out) hb); have n9_ := Aside0.mk (blk_below (g := gb345) (o := .cells #[.int .i64 t339, .int .i64 t340, .int .i64 t341, .slice Ao67 t342.length co67] 33 (0, 0)) (by (with_reducible repeat (first | refine blk_drewN ?_ _ | refine blk_drew ?_ | refine blk_alloc ?_ _)); refine blk_put (cs := #[.int .i64 t339, .int .i64 t340, .int .i64 t341, .slice none 0 0]) ?_ 3 _ rfl; refine blk_put (cs := #[.int .i64 t339, .int .i64 t340, .int .i64 0, .slice none 0 0]) ?_ 2 _ rfl; refine blk_put (cs := #[.int .i64 t339, .int .i64 0, .int .i64 0, .slice none 0 0]) ?_ 1 _ rfl; refine blk_put (cs := #[.int .i64 0, .int .i64 0, .int .i64 0, .slice none 0 0]) ?_ 0 _ rfl; (with_reducible repeat (first | refine blk_drewN ?_ _ | refine blk_drew ?_ | refine blk_alloc ?_ _)); exact BK345.out) hb); have n10_ := Aside0.mk (below_step (go_b2 HB.out GE309.out GE345.out) hb); clear HO_7; clear HO_11; clear HO_12; clear HO_310000; clear HO_310001; clear HO_310002; clear HO344; clear BK309; clear BK345; clear HB; have HO_7 := n0_; have HO_11 := n1_; have HO_12 := n2_; have HO_310000 := n3_; have HO_310001 := n4_; have HO_310002 := n5_; have HO344 := n6_; have HO348 := n7_; have BK309 := n8_; have BK345 := n9_; have HB := n10_; clear n0_ n1_ n2_ n3_ n4_ n5_ n6_ n7_ n8_ n9_ n10_; (try clear hb); (try clear hb2); (try clear hk); (try clear hi); (try clear ho0); have hcz69_0 : w68.cell? ⟨gb309, 0, none⟩ = some (.slice Ao24 t310.length co24) := (blk_cell BK309.out 0).trans rfl; have hcz69_1 : w68.cell? ⟨gb309, 1, none⟩ = some (.slice Ao26 t313.length co26) := (blk_cell BK309.out 1).trans rfl; have hcz69_2 : w68.cell? ⟨gb309, 2, none⟩ = some (.slice Ao27 t316.length co27) := (blk_cell BK309.out 2).trans rfl; have hfz69_0 := blk_frozen BK309.out 0; have hfz69_1 := blk_frozen BK309.out 1; have hfz69_2 := blk_frozen BK309.out 2) | ((with_reducible refine gate_callee (f := 49) rfl ?_); refine goesL_ (some 153) rfl rfl Tryd.func49 (by kernel_rfl) rfl #[.agg #[.slice Ao27 t316.length co27], .int .i64 a1] rfl (by (try simp only [List.map_toArray, List.map_cons, List.map_nil]); first | done | rfl | (simp only [List.length_drop, List.length_take]; rfl)) ?_; (with_reducible refine (cavilref15_In.calls _ _ t316 a1 true _ ?side1 ?side2 A54.out).mono ?_); (case side1 => repeat (first | exact (Kd.V_reads' HO_310002.out).2.2 | (with_reducible refine Kd.C_alloc ?_ _) | (with_reducible refine Kd.C_drewN ?_ _) | (with_reducible refine Kd.C_drew ?_))); (case side2 => exact (Kd.V_reads' HO_310002.out).2.1); rintro e w70 ⟨rfl, hb⟩; refine ⟨_, rfl, ?_⟩; have n0_ := Aside0.mk (Kd.V_below (go_V HO_7.out) hb); have n1_ := Aside0.mk (Kd.R_below (go_R HO_11.out) hb); have n2_ := Aside0.mk (Kd.R_below (go_R HO_12.out) hb); have n3_ := Aside0.mk (Kd.V_below (go_V HO_310000.out) hb); have n4_ := Aside0.mk (Kd.V_below (go_V HO_310001.out) hb); have n5_ := Aside0.mk (Kd.V_below (go_V HO_310002.out) hb); have n6_ := Aside0.mk (Kd.V_below (go_V HO344.out) hb); have n7_ := Aside0.mk (Kd.R_below (go_R HO348.out) hb); have n8_ := Aside0.mk (blk_below (g := gb309) (o := .cells #[.slice Ao24 t310.length co24, .slice Ao26 t313.length co26, .slice Ao27 t316.length co27] 68 (0, 0)) (go_k BK309.out) hb); have n9_ := Aside0.mk (blk_below (g := gb345) (o := .cells #[.int .i64 t339, .int .i64 t340, .int .i64 t341, .slice Ao67 t342.length co67] 33 (0, 0)) (go_k BK345.out) hb); have n10_ := Aside0.mk (below_step (go_b2 HB.out GE309.out GE345.out) hb); clear HO_7; clear HO_11; clear HO_12; clear HO_310000; clear HO_310001; clear HO_310002; clear HO344; clear HO348; clear BK309; clear BK345; clear HB; have HO_7 := n0_; have HO_11 := n1_; have HO_12 := n2_; have HO_310000 := n3_; have HO_310001 := n4_; have HO_310002 := n5_; have HO344 := n6_; have HO348 := n7_; have BK309 := n8_; have BK345 := n9_; have HB := n10_; clear n0_ n1_ n2_ n3_ n4_ n5_ n6_ n7_ n8_ n9_ n10_; (try clear hb); (try clear hb2); (try clear hk); (try clear hi); have hcz71_0 : w70.cell? ⟨gb309, 0, none⟩ = some (.slice Ao24 t310.length co24) := (blk_cell BK309.out 0).trans rfl; have hcz71_1 : w70.cell? ⟨gb309, 1, none⟩ = some (.slice Ao26 t313.length co26) := (blk_cell BK309.out 1).trans rfl; have hcz71_2 : w70.cell? ⟨gb309, 2, none⟩ = some (.slice Ao27 t316.length co27) := (blk_cell BK309.out 2).trans rfl; have hfz71_0 := blk_frozen BK309.out 0; have hfz71_1 := blk_frozen BK309.out 1; have hfz71_2 := blk_frozen BK309.out 2; have p350 : 0 ≤ (a1 : Int) := of_dec; have q350 : a1 < (t316.length : Int) := of_dec; obtain ⟨ad350, A350_3, c350_3, e350, hx350_0, hx350_1, hx350_2, hx350_3, hl350_3, hi350_3⟩ := at_T33 (Kd.V_reads' HO_310002.out).2.2 a1 p350 q350; cases e350; obtain ⟨ce350, hce350, hMe350, hcc350⟩ := Kd.V_get HO_310002.out z33 a1 p350 (by first | exact q350 | exact of_dec | (have e_ := (Kd.V_reads' HO_310002.out).1; omega)); obtain ⟨ua350_3, uc350_3, rfl, ul350_3, ge350_3⟩ := k33_openF hMe350; have hv350_3 := hcc350 3 _ rfl; rw [add_field _ _ 3 (by omega)] at hv350_3; replace hv350_3 := Option.some.inj (hv350_3.symm.trans hx350_3); injection hv350_3 with hva_ hvn_ hvc_; rw [hva_] at ge350_3; rw [hvc_] at ul350_3; have HL350_3 := Aside0.mk (show Kd.V (Kd.int .i64) 3 _ w.heap.size _ _ ((rd_T33 t316 a1).f3) from Kd.V_mk ul350_3 ge350_3); clear hva_ hvn_ hvc_ ge350_3 ul350_3; clear hcc350 hce350; have HR350_3 := Aside0.mk hi350_3; have HC350_3 := Aside0.mk hl350_3; clear hi350_3 hl350_3; replace p350 := eq_true p350; replace q350 := eq_true q350) | ((with_reducible refine gate_dst (N := 16) rfl ?_); (try (refine gate_guard (by rfl) ?_; dsimp only)); refine box_event ?hg (N := 16) ?hd (cs := #[.int .i64 0, .int .i64 0, .int .i64 0, .slice none 0 0]) (t := 33) ?hr ?_; (case hd => rfl); (case hg => rfl); (case hr => first | (go_simp; done) | (go_simp; rfl)); intro gb351 hg w72 hbox hb; have n0_ := Aside0.mk (Kd.V_below (Kd.V_elderB (go_V HO_7.out) gb351 (Nat.le_of_eq hg.symm)) hb); have n1_ := Aside0.mk (Kd.R_below (go_R HO_11.out) hb); have n2_ := Aside0.mk (Kd.R_below (go_R HO_12.out) hb); have n3_ := Aside0.mk (Kd.V_below (Kd.V_elderB (go_V HO_310000.out) gb351 (Nat.le_of_eq hg.symm)) hb); have n4_ := Aside0.mk (Kd.V_below (Kd.V_elderB (go_V HO_310001.out) gb351 (Nat.le_of_eq hg.symm)) hb); have n5_ := Aside0.mk (Kd.V_below (Kd.V_elderB (go_V HO_310002.out) gb351 (Nat.le_of_eq hg.symm)) hb); have n6_ := Aside0.mk (Kd.V_below (Kd.V_elderB (go_V HO344.out) gb351 (Nat.le_of_eq hg.symm)) hb); have n7_ := Aside0.mk (Kd.R_below (go_R HO348.out) hb); have n8_ := Aside0.mk (Kd.V_below (Kd.V_elderB (go_V HL350_3.out) gb351 (Nat.le_of_eq hg.symm)) hb); have n9_ := Aside0.mk (blk_below (g := gb309) (o := .cells #[.slice Ao24 t310.length co24, .slice Ao26 t313.length co26, .slice (some ad350) t316.length co27] 68 (0, 0)) (go_k BK309.out) hb); have n10_ := Aside0.mk (blk_below (g := gb345) (o := .cells #[.int .i64 t339, .int .i64 t340, .int .i64 t341, .slice Ao67 t342.length co67] 33 (0, 0)) (go_k BK345.out) hb); have n11_ := Aside0.mk (Kd.C_below (by repeat (first | (with_reducible exact HR350_3.out) | (with_reducible refine Kd.C_alloc ?_ _) | (with_reducible refine Kd.C_drewN ?_ _) | (with_reducible refine Kd.C_drew ?_) | exact HR350_3.out)) hb); have n12_ := Aside0.mk (below_step (go_b2 HB.out GE309.out GE345.out) hb); have n13_ := Aside0.mk (hbox); have n14_ := Aside0.mk ((by rw [hg]; exact (below_size (go_b2 HB.out GE309.out GE345.out)) : w.heap.size ≤ gb351)); have n15_ := Aside0.mk ((by rw [hg]; exact (below_size (go_b2 HB.out GE309.out GE345.out)) : w.heap.size ≤ gb351)); have n16_ := Aside0.mk ((by rw [hg]; exact Nat.ne_of_lt (blk_lt (g := gb309) (o := .cells #[.slice Ao24 t310.length co24, .slice Ao26 t313.length co26, .slice (some ad350) t316.length co27] 68 (0, 0)) (go_k BK309.out)) : gb309 ≠ gb351)); have n17_ := Aside0.mk ((by rw [hg]; exact Nat.ne_of_gt (blk_lt (g := gb309) (o := .cells #[.slice Ao24 t310.length co24, .slice Ao26 t313.length co26, .slice (some ad350) t316.length co27] 68 (0, 0)) (go_k BK309.out)) : gb351 ≠ gb309)); have n18_ := Aside0.mk ((by rw [hg]; exact Nat.ne_of_lt (blk_lt (g := gb345) (o := .cells #[.int .i64 t339, .int .i64 t340, .int .i64 t341, .slice Ao67 t342.length co67] 33 (0, 0)) (go_k BK345.out)) : gb345 ≠ gb351)); have n19_ := Aside0.mk ((by rw [hg]; exact Nat.ne_of_gt (blk_lt (g := gb345) (o := .cells #[.int .i64 t339, .int .i64 t340, .int .i64 t341, .slice Ao67 t342.length co67] 33 (0, 0)) (go_k BK345.out)) : gb351 ≠ gb345)); clear HO_7; clear HO_11; clear HO_12; clear HO_310000; clear HO_310001; clear HO_310002; clear HO344; clear HO348; clear HL350_3; clear BK309; clear BK345; clear HR350_3; clear HB; have HO_7 := n0_; have HO_11 := n1_; have HO_12 := n2_; have HO_310000 := n3_; have HO_310001 := n4_; have HO_310002 := n5_; have HO344 := n6_; have HO348 := n7_; have HL350_3 := n8_; have BK309 := n9_; have BK345 := n10_; have HR350_3 := n11_; have HB := n12_; have BK351 := n13_; have GW351 := n14_; have GE351 := n15_; have NB309_351 := n16_; have NB351_309 := n17_; have NB345_351 := n18_; have NB351_345 := n19_; clear n0_ n1_ n2_ n3_ n4_ n5_ n6_ n7_ n8_ n9_ n10_ n11_ n12_ n13_ n14_ n15_ n16_ n17_ n18_ n19_; clear hb hbox hg; have hnb73 := NB351_309.out; have hnc73 := NB309_351.out; have hnb74 := NB351_345.out; have hnc74 := NB345_351.out; have hcz75_0 : w72.cell? ⟨gb351, 0, none⟩ = some (.int .i64 0) := (blk_cell BK351.out 0).trans rfl; have hcz75_1 : w72.cell? ⟨gb351, 1, none⟩ = some (.int .i64 0) := (blk_cell BK351.out 1).trans rfl; have hcz75_2 : w72.cell? ⟨gb351, 2, none⟩ = some (.int .i64 0) := (blk_cell BK351.out 2).trans rfl; have hcz75_3 : w72.cell? ⟨gb351, 3, none⟩ = some (.slice none 0 0) := (blk_cell BK351.out 3).trans rfl; have hfz75_0 := blk_frozen BK351.out 0; have hfz75_1 := blk_frozen BK351.out 1; have hfz75_2 := blk_frozen BK351.out 2; have hfz75_3 := blk_frozen BK351.out 3; have hcz76_0 : w72.cell? ⟨gb345, 0, none⟩ = some (.int .i64 t339) := (blk_cell BK345.out 0).trans rfl; have hcz76_1 : w72.cell? ⟨gb345, 1, none⟩ = some (.int .i64 t340) := (blk_cell BK345.out 1).trans rfl; have hcz76_2 : w72.cell? ⟨gb345, 2, none⟩ = some (.int .i64 t341) := (blk_cell BK345.out 2).trans rfl; have hcz76_3 : w72.cell? ⟨gb345, 3, none⟩ = some (.slice Ao67 t342.length co67) := (blk_cell BK345.out 3).trans rfl; have hfz76_0 := blk_frozen BK345.out 0; have hfz76_1 := blk_frozen BK345.out 1; have hfz76_2 := blk_frozen BK345.out 2; have hfz76_3 := blk_frozen BK345.out 3; obtain ⟨Ao77, co77, eo77⟩ := Kd.R_slice HO348.out; subst eo77))
                  go_loopg [219] k1 (fun kq v219 w' => ∃ (x219_2 : Int), v219 = .int .i64 x219_2 ∧ Aside0 (cavillaw15_ViewNodes.l1 kq t346 (t346.length : Int) x219_2 t310 t313 t316 ((rd_T33 t316 a1).f0) ((rd_T33 t316 a1).f1) ((rd_T33 t316 a1).f2) ((rd_T33 t316 a1).f3) = some r) ∧ Aside0 (kq ≤ k1) ∧ Aside0 (Kd.R Kd.string 9 w' w.heap.size (fun _ => True) (.slice Ao77 t346.length co77) t346) ∧ Aside0 (Kd.V (Kd.int .u8) 5 w' w.heap.size (fun k_ => some k_ ≠ ((.slice Ao77 t346.length co77) : Value).ownBlock ∧ k_ ≠ gb309 ∧ k_ ≠ gb345 ∧ k_ ≠ gb351) (.slice Ao24 t310.length co24) t310) ∧ Aside0 (Kd.V k103 103 w' w.heap.size (fun k_ => some k_ ≠ ((.slice Ao77 t346.length co77) : Value).ownBlock ∧ k_ ≠ gb309 ∧ k_ ≠ gb345 ∧ k_ ≠ gb351) (.slice Ao26 t313.length co26) t313) ∧ Aside0 (Kd.V k33 33 w' w.heap.size (fun k_ => some k_ ≠ ((.slice Ao77 t346.length co77) : Value).ownBlock ∧ k_ ≠ gb309 ∧ k_ ≠ gb345 ∧ k_ ≠ gb351) (.slice (some ad350) t316.length co27) t316) ∧ Aside0 (Kd.V (Kd.int .i64) 3 w' w.heap.size (fun k_ => some k_ ≠ ((.slice Ao77 t346.length co77) : Value).ownBlock ∧ k_ ≠ gb309 ∧ k_ ≠ gb345 ∧ k_ ≠ gb351) (.slice Ao67 t342.length co67) t342) ∧ Aside0 (w'.heap[gb309]? = some (.cells #[(.slice Ao24 t310.length co24), (.slice Ao26 t313.length co26), (.slice (some ad350) t316.length co27)] 68 (0, 0))) ∧ Aside0 (w'.heap[gb345]? = some (.cells #[.int .i64 t339, .int .i64 t340, .int .i64 t341, (.slice Ao67 t342.length co67)] 33 (0, 0))) ∧ Aside0 (w'.heap[gb351]? = some (.cells #[.int .i64 ((rd_T33 t316 a1).f0), .int .i64 ((rd_T33 t316 a1).f1), .int .i64 ((rd_T33 t316 a1).f2), (.slice A350_3 ((rd_T33 t316 a1).f3).length c350_3)] 33 (0, 0))) ∧ Aside0 (Kd.C (Kd.int .i64) w' A350_3 ((rd_T33 t316 a1).f3).length ((rd_T33 t316 a1).f3)) ∧ Aside0 (Below w.heap.size w w'))
                  case atStart => exact ⟨(0), (by first | rfl | (simp; done) | (simp [*]; done)), H', ⟨Nat.le_refl _⟩, ⟨by (with_reducible repeat (first | apply Kd.R_alloc | apply Kd.R_drewN | apply Kd.R_drew)); exact Kd.R_mono (Kd.R_far (p := ⟨gb351, 3, none⟩) (Kd.R_far (p := ⟨gb351, 2, none⟩) (Kd.R_far (p := ⟨gb351, 1, none⟩) (Kd.R_far (p := ⟨gb351, 0, none⟩) (Kd.R_types HO348.out BK351.out (by decide)) (fun _ hk => hk.2) (.int .i64 ((rd_T33 t316 a1).f0))) (fun _ hk => hk.2) (.int .i64 ((rd_T33 t316 a1).f1))) (fun _ hk => hk.2) (.int .i64 ((rd_T33 t316 a1).f2))) (fun _ hk => hk.2) (.slice A350_3 ((rd_T33 t316 a1).f3).length c350_3)) (fun _ hk => trivial)⟩, ⟨by (with_reducible repeat (first | apply Kd.V_alloc | apply Kd.V_drewN | apply Kd.V_drew)); exact Kd.V_mono (Kd.V_far (p := ⟨gb351, 3, none⟩) (Kd.V_far (p := ⟨gb351, 2, none⟩) (Kd.V_far (p := ⟨gb351, 1, none⟩) (Kd.V_far (p := ⟨gb351, 0, none⟩) (Kd.V_mono HO_310000.out (fun k_ hk => (⟨hk, hk.2⟩ : _ ∧ k_ ≠ gb351))) (fun _ hk => hk.2) (.int .i64 ((rd_T33 t316 a1).f0))) (fun _ hk => hk.2) (.int .i64 ((rd_T33 t316 a1).f1))) (fun _ hk => hk.2) (.int .i64 ((rd_T33 t316 a1).f2))) (fun _ hk => hk.2) (.slice A350_3 ((rd_T33 t316 a1).f3).length c350_3)) (fun _ hk => ⟨hk.1.1.2, ⟨hk.1.1.1.1.2.2, ⟨hk.1.1.1.2, hk.1.2⟩⟩⟩)⟩, ⟨by (with_reducible repeat (first | apply Kd.V_alloc | apply Kd.V_drewN | apply Kd.V_drew)); exact Kd.V_mono (Kd.V_far (p := ⟨gb351, 3, none⟩) (Kd.V_far (p := ⟨gb351, 2, none⟩) (Kd.V_far (p := ⟨gb351, 1, none⟩) (Kd.V_far (p := ⟨gb351, 0, none⟩) (Kd.V_mono HO_310001.out (fun k_ hk => (⟨hk, hk.2⟩ : _ ∧ k_ ≠ gb351))) (fun _ hk => hk.2) (.int .i64 ((rd_T33 t316 a1).f0))) (fun _ hk => hk.2) (.int .i64 ((rd_T33 t316 a1).f1))) (fun _ hk => hk.2) (.int .i64 ((rd_T33 t316 a1).f2))) (fun _ hk => hk.2) (.slice A350_3 ((rd_T33 t316 a1).f3).length c350_3)) (fun _ hk => ⟨hk.1.1.2, ⟨hk.1.1.1.1.2.2, ⟨hk.1.1.1.2, hk.1.2⟩⟩⟩)⟩, ⟨by (with_reducible repeat (first | apply Kd.V_alloc | apply Kd.V_drewN | apply Kd.V_drew)); exact Kd.V_mono (Kd.V_far (p := ⟨gb351, 3, none⟩) (Kd.V_far (p := ⟨gb351, 2, none⟩) (Kd.V_far (p := ⟨gb351, 1, none⟩) (Kd.V_far (p := ⟨gb351, 0, none⟩) (Kd.V_mono HO_310002.out (fun k_ hk => (⟨hk, hk.2⟩ : _ ∧ k_ ≠ gb351))) (fun _ hk => hk.2) (.int .i64 ((rd_T33 t316 a1).f0))) (fun _ hk => hk.2) (.int .i64 ((rd_T33 t316 a1).f1))) (fun _ hk => hk.2) (.int .i64 ((rd_T33 t316 a1).f2))) (fun _ hk => hk.2) (.slice A350_3 ((rd_T33 t316 a1).f3).length c350_3)) (fun _ hk => ⟨hk.1.1.2, ⟨hk.1.1.1.1.2.2, ⟨hk.1.1.1.2, hk.1.2⟩⟩⟩)⟩, ⟨by (with_reducible repeat (first | apply Kd.V_alloc | apply Kd.V_drewN | apply Kd.V_drew)); exact Kd.V_mono (Kd.V_far (p := ⟨gb351, 3, none⟩) (Kd.V_far (p := ⟨gb351, 2, none⟩) (Kd.V_far (p := ⟨gb351, 1, none⟩) (Kd.V_far (p := ⟨gb351, 0, none⟩) (Kd.V_mono HO344.out (fun k_ hk => (⟨hk, hk.2⟩ : _ ∧ k_ ≠ gb351))) (fun _ hk => hk.2) (.int .i64 ((rd_T33 t316 a1).f0))) (fun _ hk => hk.2) (.int .i64 ((rd_T33 t316 a1).f1))) (fun _ hk => hk.2) (.int .i64 ((rd_T33 t316 a1).f2))) (fun _ hk => hk.2) (.slice A350_3 ((rd_T33 t316 a1).f3).length c350_3)) (fun _ hk => ⟨hk.1.1.2, ⟨hk.1.1.1.1.2.2, ⟨hk.1.1.1.2, hk.1.2⟩⟩⟩)⟩, ⟨by (with_reducible repeat (first | refine blk_drewN ?_ _ | refine blk_drew ?_ | refine blk_alloc ?_ _)); refine blk_far ?_ NB309_351.out _; refine blk_far ?_ NB309_351.out _; refine blk_far ?_ NB309_351.out _; refine blk_far ?_ NB309_351.out _; (with_reducible repeat (first | refine blk_drewN ?_ _ | refine blk_drew ?_ | refine blk_alloc ?_ _)); exact BK309.out⟩, ⟨by (with_reducible repeat (first | refine blk_drewN ?_ _ | refine blk_drew ?_ | refine blk_alloc ?_ _)); refine blk_far ?_ NB345_351.out _; refine blk_far ?_ NB345_351.out _; refine blk_far ?_ NB345_351.out _; refine blk_far ?_ NB345_351.out _; (with_reducible repeat (first | refine blk_drewN ?_ _ | refine blk_drew ?_ | refine blk_alloc ?_ _)); exact BK345.out⟩, ⟨by (with_reducible repeat (first | refine blk_drewN ?_ _ | refine blk_drew ?_ | refine blk_alloc ?_ _)); refine blk_put (cs := #[.int .i64 ((rd_T33 t316 a1).f0), .int .i64 ((rd_T33 t316 a1).f1), .int .i64 ((rd_T33 t316 a1).f2), .slice none 0 0]) ?_ 3 _ rfl; refine blk_put (cs := #[.int .i64 ((rd_T33 t316 a1).f0), .int .i64 ((rd_T33 t316 a1).f1), .int .i64 0, .slice none 0 0]) ?_ 2 _ rfl; refine blk_put (cs := #[.int .i64 ((rd_T33 t316 a1).f0), .int .i64 0, .int .i64 0, .slice none 0 0]) ?_ 1 _ rfl; refine blk_put (cs := #[.int .i64 0, .int .i64 0, .int .i64 0, .slice none 0 0]) ?_ 0 _ rfl; (with_reducible repeat (first | refine blk_drewN ?_ _ | refine blk_drew ?_ | refine blk_alloc ?_ _)); exact BK351.out⟩, ⟨(Kd.V_reads' (by (with_reducible repeat (first | apply Kd.V_alloc | apply Kd.V_drewN | apply Kd.V_drew)); exact (Kd.V_mono (Kd.V_far (p := ⟨gb351, 3, none⟩) (Kd.V_far (p := ⟨gb351, 2, none⟩) (Kd.V_far (p := ⟨gb351, 1, none⟩) (Kd.V_far (p := ⟨gb351, 0, none⟩) (Kd.V_mono HL350_3.out (fun k_ hk => (⟨hk, hk.2⟩ : _ ∧ k_ ≠ gb351))) (fun _ hk => hk.2) (.int .i64 ((rd_T33 t316 a1).f0))) (fun _ hk => hk.2) (.int .i64 ((rd_T33 t316 a1).f1))) (fun _ hk => hk.2) (.int .i64 ((rd_T33 t316 a1).f2))) (fun _ hk => hk.2) (.slice A350_3 ((rd_T33 t316 a1).f3).length c350_3)) (fun _ h_ => h_.1)))).2.2⟩, ⟨by repeat (first | (with_reducible first | exact HB.out | apply below_alloc | apply pw_below_drewN | apply below_drew1 | refine below_set ?_ GE309.out | refine below_set ?_ GE345.out | refine below_set ?_ GE351.out) | exact HB.out)⟩⟩
                  case round =>
                   clear H'
                   try clear c1
                   try clear c2
                   try clear p2
                   try clear c3
                   try clear p3
                   try clear q3
                   try clear hx3
                   try clear c4
                   try clear c5
                   try clear c6
                   try clear p6
                   try clear c7
                   try clear c9
                   try clear c12
                   try clear c20
                   try clear c20b0
                   try clear c20b1
                   try clear p33
                   try clear q33
                   try clear hx33
                   try clear c35
                   try clear p35
                   try clear q35
                   try clear hx35
                   try clear c38
                   try clear c39
                   try clear c40
                   try clear c41
                   try clear c42
                   try clear c43
                   try clear c44
                   try clear c46
                   try clear c46b0
                   try clear c47
                   try clear c47b0
                   try clear c48
                   try clear c48b0
                   try clear c49
                   try clear c49b0
                   try clear c50
                   try clear c50b0
                   try clear c50b1
                   try clear c55
                   try clear c56
                   try clear c56b0
                   try clear c57
                   try clear c57b0
                   try clear c58
                   try clear c58b0
                   try clear c58b1
                   try clear c59
                   try clear c59b0
                   try clear c59b1
                   try clear c60
                   try clear c60b0
                   try clear c60b1
                   try clear c61
                   try clear c61b0
                   try clear c61b1
                   try clear c61b2
                   try clear c62
                   try clear c62b0
                   try clear c62b1
                   try clear c62b2
                   try clear p64
                   try clear c65
                   try clear c73
                   try clear c74
                   try clear hcz22_0
                   try clear hcz22_1
                   try clear hcz22_2
                   try clear hcz25_0
                   try clear hcz25_1
                   try clear hcz25_2
                   try clear hcz29_0
                   try clear hcz29_1
                   try clear hcz29_2
                   try clear hcz32_0
                   try clear hcz32_1
                   try clear hcz32_2
                   try clear hcz66_0
                   try clear hcz66_1
                   try clear hcz66_2
                   try clear hcz66_3
                   try clear hcz69_0
                   try clear hcz69_1
                   try clear hcz69_2
                   try clear hcz71_0
                   try clear hcz71_1
                   try clear hcz71_2
                   try clear hcz75_0
                   try clear hcz75_1
                   try clear hcz75_2
                   try clear hcz75_3
                   try clear hcz76_0
                   try clear hcz76_1
                   try clear hcz76_2
                   try clear hcz76_3
                   try clear hfz22_0
                   try clear hfz22_1
                   try clear hfz22_2
                   try clear hfz25_0
                   try clear hfz25_1
                   try clear hfz25_2
                   try clear hfz29_0
                   try clear hfz29_1
                   try clear hfz29_2
                   try clear hfz32_0
                   try clear hfz32_1
                   try clear hfz32_2
                   try clear hfz66_0
                   try clear hfz66_1
                   try clear hfz66_2
                   try clear hfz66_3
                   try clear hfz69_0
                   try clear hfz69_1
                   try clear hfz69_2
                   try clear hfz71_0
                   try clear hfz71_1
                   try clear hfz71_2
                   try clear hfz75_0
                   try clear hfz75_1
                   try clear hfz75_2
                   try clear hfz75_3
                   try clear hfz76_0
                   try clear hfz76_1
                   try clear hfz76_2
                   try clear hfz76_3
                   try clear hx337_0
                   try clear hx338_0
                   try clear hx350_0
                   try clear hx350_1
                   try clear hx350_2
                   try clear hx350_3
                   try clear p2
                   try clear p337
                   try clear p338
                   try clear p350
                   try clear q337
                   try clear q338
                   try clear q350
                   obtain ⟨x219_2, rfl, HA, HK2, HO_15, HO_310000, HO_310001, HO_310002, HO_346003, BK309, BK345, BK351, HR350_3, HB⟩ := hrel
                   cases gk with
                   | zero => exact absurd HA.out (by simp [cavillaw15_ViewNodes.l1])
                   | succ k2 =>
                    have H := HA.out
                    clear HA
                    simp only [cavillaw15_ViewNodes.l1] at H
                    by_cases c78 : x219_2 < (t346.length : Int)
                    ·rw [if_pos c78] at H
                     have c78b0 : decide (x219_2 < (t346.length : Int)) = true := decide_eq_true c78
                     clear c78
                     by_cases c79 : 0 ≤ x219_2
                     ·rw [if_pos c79] at H
                      have c79b0 : decide (0 ≤ x219_2) = true := decide_eq_true c79
                      clear c79
                      by_cases c80 : x219_2 < (t346.length : Int)
                      ·rw [if_pos c80] at H
                       have c80b0 : decide (x219_2 < (t346.length : Int)) = true := decide_eq_true c80
                       clear c80
                       by_cases c81 : x219_2 < (((rd_T33 t316 a1).f3).length : Int)
                       ·rw [if_pos c81] at H
                        have c81b0 : decide (x219_2 < (((rd_T33 t316 a1).f3).length : Int)) = true := decide_eq_true c81
                        clear c81
                        replace H := Option.bind_eq_some_iff.mp H
                        obtain ⟨t354, A820, H⟩ := H
                        replace H : (if (rdOf ByteArray.empty t346 x219_2).toList = t354.toList then (cavillaw15_ViewNodes.l1 k2 t346 (t346.length : Int) (wrap64 (x219_2 + 1)) t310 t313 t316 ((rd_T33 t316 a1).f0) ((rd_T33 t316 a1).f1) ((rd_T33 t316 a1).f2) ((rd_T33 t316 a1).f3)) else (some false)) = some r := H
                        have A82 := Aside0.mk A820
                        clear A820
                        by_cases c83 : (rdOf ByteArray.empty t346 x219_2).toList = t354.toList
                        ·rw [if_pos c83] at H
                         have c83b0 : ((rdOf ByteArray.empty t346 x219_2).toList == t354.toList) = true := beq_iff_eq.mpr c83
                         have c83b1 : ((rdOf ByteArray.empty t346 x219_2).toList != t354.toList) = false := bne_eq_false_iff_eq.mpr c83
                         clear c83
                         have H' := Aside0.mk H
                         clear H
                         try go_wp2
                         have n0_ := Aside0.mk (Kd.R_drew HO_15.out)
                         have n1_ := Aside0.mk (Kd.V_drew HO_310000.out)
                         have n2_ := Aside0.mk (Kd.V_drew HO_310001.out)
                         have n3_ := Aside0.mk (Kd.V_drew HO_310002.out)
                         have n4_ := Aside0.mk (Kd.V_drew HO_346003.out)
                         have n5_ := Aside0.mk (blk_drew BK309.out)
                         have n6_ := Aside0.mk (blk_drew BK345.out)
                         have n7_ := Aside0.mk (blk_drew BK351.out)
                         have n8_ := Aside0.mk (Kd.C_drew HR350_3.out)
                         have n9_ := Aside0.mk (below_drew1 HB.out)
                         clear HO_15
                         clear HO_310000
                         clear HO_310001
                         clear HO_310002
                         clear HO_346003
                         clear BK309
                         clear BK345
                         clear BK351
                         clear HR350_3
                         clear HB
                         have HO_15 := n0_
                         have HO_310000 := n1_
                         have HO_310001 := n2_
                         have HO_310002 := n3_
                         have HO_346003 := n4_
                         have BK309 := n5_
                         have BK345 := n6_
                         have BK351 := n7_
                         have HR350_3 := n8_
                         have HB := n9_
                         clear n0_ n1_ n2_ n3_ n4_ n5_ n6_ n7_ n8_ n9_
                         have p352 : 0 ≤ (x219_2 : Int) := of_dec
                         have q352 : x219_2 < (t346.length : Int) := of_dec
                         obtain ⟨ad352, e352, hx352_0⟩ := Kd.at_string (Kd.R_reads' HO_15.out).2.2 x219_2 p352 q352
                         cases e352
                         replace p352 := eq_true p352
                         replace q352 := eq_true q352
                         have p353 : 0 ≤ (x219_2 : Int) := of_dec
                         have q353 : x219_2 < (((rd_T33 t316 a1).f3).length : Int) := of_dec
                         obtain ⟨ad353, e353, hx353_0⟩ := Kd.at_int (by repeat (first | (with_reducible exact HR350_3.out) | (with_reducible refine Kd.C_alloc ?_ _) | (with_reducible refine Kd.C_drewN ?_ _) | (with_reducible refine Kd.C_drew ?_) | exact HR350_3.out)) x219_2 p353 q353
                         cases e353
                         replace p353 := eq_true p353
                         replace q353 := eq_true q353
                         refine start_ (n := 17) (S := fun w' => w'.cell? ⟨gb309, 0, none⟩ = some (.slice Ao24 t310.length co24) ∧ w'.cell? ⟨gb309, 1, none⟩ = some (.slice Ao26 t313.length co26) ∧ w'.cell? ⟨gb309, 2, none⟩ = some (.slice (some ad350) t316.length co27) ∧ w'.cell? ⟨gb351, 0, none⟩ = some (.int .i64 ((rd_T33 t316 a1).f0)) ∧ w'.cell? ⟨gb351, 1, none⟩ = some (.int .i64 ((rd_T33 t316 a1).f1)) ∧ w'.cell? ⟨gb351, 2, none⟩ = some (.int .i64 ((rd_T33 t316 a1).f2)) ∧ w'.cell? ⟨gb351, 3, none⟩ = some (.slice (some ad353) ((rd_T33 t316 a1).f3).length c350_3) ∧ w'.cell? (ad352.add (x219_2).toNat) = some (.string (rdOf ByteArray.empty t346 x219_2)) ∧ w'.cell? (ad353.add (x219_2).toNat) = some (.int .i64 (rd ((rd_T33 t316 a1).f3) x219_2))) (ds := []) #[false, false, false, false, false, false, false, false, false, false, false, false, false, false, false, false, false] (by kernel_rfl) rfl rfl ⟨(blk_cell BK309.out 0).trans rfl, (blk_cell BK309.out 1).trans rfl, (blk_cell BK309.out 2).trans rfl, (blk_cell BK351.out 0).trans rfl, (blk_cell BK351.out 1).trans rfl, (blk_cell BK351.out 2).trans rfl, (blk_cell BK351.out 3).trans rfl, hx352_0, hx353_0⟩ (fun hHeld => ?_); refine with_tabW cavillaw15_ViewNodes.tab27 cavillaw15_ViewNodes.bits27 (fun HT_ HW_ => ?_)
                         generalize wr.drew = w84 at HO_15 HO_310000 HO_310001 HO_310002 HO_346003 BK309 BK345 BK351 HR350_3 HB hx352_0 hx353_0 hHeld ⊢
                         refine pure_ (i := 0) (N := some 222) (v := ?_) (a' := ?_) (bl_ 17 1) rfl rfl (any_of HT_.out (by kernel_rfl)) (fun _ _ _ h => h) (Or.inl ⟨by rfl, ?_⟩) ?_ ?_; rotate_left; { intro w'; go_simp; with_reducible rfl }; rotate_left; { simp only [Act.put, List.setIfInBounds_toArray, List.set_cons_zero, List.set_cons_succ, i64_w, i32_w]; rfl }
                         refine pure_ (i := 1) (N := some 223) (v := ?_) (a' := ?_) (bl_ 17 3) rfl rfl (any_of HT_.out (by kernel_rfl)) (fun _ _ _ h => h) (Or.inl ⟨by rfl, ?_⟩) ?_ ?_; rotate_left; { intro w'; go_simp; with_reducible rfl }; rotate_left; { simp only [Act.put, List.setIfInBounds_toArray, List.set_cons_zero, List.set_cons_succ, i64_w, i32_w]; rfl }
                         refine pure_ (i := 2) (N := some 224) (v := ?_) (a' := ?_) (bl_ 17 7) rfl rfl (any_of HT_.out (by kernel_rfl)) (fun _ _ _ h => h) (Or.inl ⟨by rfl, ?_⟩) ?_ ?_; rotate_left; { intro w'; go_simp; with_reducible rfl }; rotate_left; { simp only [Act.put, List.setIfInBounds_toArray, List.set_cons_zero, List.set_cons_succ, i64_w, i32_w]; rfl }
                         refine pure_ (i := 4) (N := some 226) (v := ?_) (a' := ?_) (bl_ 17 23) rfl rfl (any_of HT_.out (by kernel_rfl)) (fun _ _ _ h => h) (Or.inl ⟨by rfl, ?_⟩) ?_ ?_; rotate_left; { intro w'; go_simp; with_reducible rfl }; rotate_left; { simp only [Act.put, List.setIfInBounds_toArray, List.set_cons_zero, List.set_cons_succ, i64_w, i32_w]; rfl }
                         refine pure_ (i := 6) (N := some 228) (v := ?_) (a' := ?_) (bl_ 17 87) rfl rfl (any_of HT_.out (by kernel_rfl)) (fun _ _ _ h => h) (Or.inl ⟨by rfl, ?_⟩) ?_ ?_; rotate_left; { intro w'; go_simp; with_reducible rfl }; rotate_left; { simp only [Act.put, List.setIfInBounds_toArray, List.set_cons_zero, List.set_cons_succ, i64_w, i32_w]; rfl }
                         refine pure_ (i := 8) (N := some 230) (v := ?_) (a' := ?_) (bl_ 17 343) rfl rfl (any_of HT_.out (by kernel_rfl)) (fun _ _ _ h => h) (Or.inl ⟨by rfl, ?_⟩) ?_ ?_; rotate_left; { intro w'; go_simp; with_reducible rfl }; rotate_left; { simp only [Act.put, List.setIfInBounds_toArray, List.set_cons_zero, List.set_cons_succ, i64_w, i32_w]; rfl }
                         refine pure_ (i := 10) (N := some 232) (v := ?_) (a' := ?_) (bl_ 17 1367) rfl rfl (any_of HT_.out (by kernel_rfl)) (fun _ _ _ h => h) (Or.inl ⟨by rfl, ?_⟩) ?_ ?_; rotate_left; { intro w'; go_simp; with_reducible rfl }; rotate_left; { simp only [Act.put, List.setIfInBounds_toArray, List.set_cons_zero, List.set_cons_succ, i64_w, i32_w]; rfl }
                         refine pure_ (i := 12) (N := some 234) (v := ?_) (a' := ?_) (bl_ 17 5463) rfl rfl (any_of HT_.out (by kernel_rfl)) (fun _ _ _ h => h) (Or.inl ⟨by rfl, ?_⟩) ?_ ?_; rotate_left; { intro w'; go_simp; with_reducible rfl }; rotate_left; { simp only [Act.put, List.setIfInBounds_toArray, List.set_cons_zero, List.set_cons_succ, i64_w, i32_w]; rfl }
                         refine take_ (i := 3) (N := some 225) (v := ?_) (a' := ?_) (bl_ 17 5471) rfl rfl (take_ofW HT_.out HW_.out (by kernel_rfl)) (fun _ _ _ h => h) (Or.inl ⟨by rfl, ?_⟩) hHeld ?_ ?_; rotate_left; { rintro w' ⟨s0, s1, s2, s3, s4, s5, s6, s7, s8⟩; go_simp; with_reducible rfl }; rotate_left; { simp only [Act.put, List.setIfInBounds_toArray, List.set_cons_zero, List.set_cons_succ, i64_w, i32_w]; rfl }
                         refine take_ (i := 5) (N := some 227) (v := ?_) (a' := ?_) (bl_ 17 5503) rfl rfl (take_ofW HT_.out HW_.out (by kernel_rfl)) (fun _ _ _ h => h) (Or.inl ⟨by rfl, ?_⟩) hHeld ?_ ?_; rotate_left; { rintro w' ⟨s0, s1, s2, s3, s4, s5, s6, s7, s8⟩; go_simp; with_reducible rfl }; rotate_left; { simp only [Act.put, List.setIfInBounds_toArray, List.set_cons_zero, List.set_cons_succ, i64_w, i32_w]; rfl }
                         refine take_ (i := 7) (N := some 229) (v := ?_) (a' := ?_) (bl_ 17 5631) rfl rfl (take_ofW HT_.out HW_.out (by kernel_rfl)) (fun _ _ _ h => h) (Or.inl ⟨by rfl, ?_⟩) hHeld ?_ ?_; rotate_left; { rintro w' ⟨s0, s1, s2, s3, s4, s5, s6, s7, s8⟩; go_simp; with_reducible rfl }; rotate_left; { simp only [Act.put, List.setIfInBounds_toArray, List.set_cons_zero, List.set_cons_succ, i64_w, i32_w]; rfl }
                         refine take_ (i := 9) (N := some 231) (v := ?_) (a' := ?_) (bl_ 17 6143) rfl rfl (take_ofW HT_.out HW_.out (by kernel_rfl)) (fun _ _ _ h => h) (Or.inl ⟨by rfl, ?_⟩) hHeld ?_ ?_; rotate_left; { rintro w' ⟨s0, s1, s2, s3, s4, s5, s6, s7, s8⟩; go_simp; with_reducible rfl }; rotate_left; { simp only [Act.put, List.setIfInBounds_toArray, List.set_cons_zero, List.set_cons_succ, i64_w, i32_w]; rfl }
                         refine take_ (i := 11) (N := some 233) (v := ?_) (a' := ?_) (bl_ 17 8191) rfl rfl (take_ofW HT_.out HW_.out (by kernel_rfl)) (fun _ _ _ h => h) (Or.inl ⟨by rfl, ?_⟩) hHeld ?_ ?_; rotate_left; { rintro w' ⟨s0, s1, s2, s3, s4, s5, s6, s7, s8⟩; go_simp; with_reducible rfl }; rotate_left; { simp only [Act.put, List.setIfInBounds_toArray, List.set_cons_zero, List.set_cons_succ, i64_w, i32_w]; rfl }
                         refine pure_ (i := 13) (N := some 235) (v := ?_) (a' := ?_) (bl_ 17 16383) rfl rfl (any_of HT_.out (by kernel_rfl)) (fun _ _ _ h => h) (Or.inl ⟨by rfl, ?_⟩) ?_ ?_; rotate_left; { intro w'; go_simp; with_reducible rfl }; rotate_left; { simp only [Act.put, List.setIfInBounds_toArray, List.set_cons_zero, List.set_cons_succ, i64_w, i32_w]; rfl }
                         refine take_ (i := 14) (N := some 236) (v := ?_) (a' := ?_) (bl_ 17 32767) rfl rfl (take_ofW HT_.out HW_.out (by kernel_rfl)) (fun _ _ _ h => h) (Or.inl ⟨by rfl, ?_⟩) hHeld ?_ ?_; rotate_left; { rintro w' ⟨s0, s1, s2, s3, s4, s5, s6, s7, s8⟩; go_simp; with_reducible rfl }; rotate_left; { simp only [Act.put, List.setIfInBounds_toArray, List.set_cons_zero, List.set_cons_succ, i64_w, i32_w]; rfl }
                         refine one_ (i := 15) (N := some 237) (bl_ 17 65535) rfl rfl (one_of HT_.out (by kernel_rfl)) (by decide) (fun K hK => ?_)
                         refine goes_ Tryd.func48 (by kernel_rfl) rfl #[.slice Ao24 t310.length co24, .slice Ao26 t313.length co26, .agg #[.slice (some ad350) t316.length co27], .int .i64 (rd ((rd_T33 t316 a1).f3) x219_2)] (by rfl) rfl rfl (by (try simp only [List.map_toArray, List.map_cons, List.map_nil]); first | done | rfl | (simp only [List.length_drop, List.length_take]; rfl)) ?_
                         with_reducible refine (cavilref15_Word.calls k2 _ _ t310 _ _ t313 _ _ t316 (rd ((rd_T33 t316 a1).f3) x219_2) t354 _ ?side1 ?side2 ?side3 ?side4 ?side5 ?side6 A82.out).mono ?_
                         (case side1 => repeat (first | exact (Kd.V_reads' HO_310000.out).2.2 | (with_reducible refine Kd.C_alloc ?_ _) | (with_reducible refine Kd.C_drewN ?_ _) | (with_reducible refine Kd.C_drew ?_)))
                         (case side2 => exact (Kd.V_reads' HO_310000.out).2.1)
                         (case side3 => repeat (first | exact (Kd.V_reads' HO_310001.out).2.2 | (with_reducible refine Kd.C_alloc ?_ _) | (with_reducible refine Kd.C_drewN ?_ _) | (with_reducible refine Kd.C_drew ?_)))
                         (case side4 => exact (Kd.V_reads' HO_310001.out).2.1)
                         (case side5 => repeat (first | exact (Kd.V_reads' HO_310002.out).2.2 | (with_reducible refine Kd.C_alloc ?_ _) | (with_reducible refine Kd.C_drewN ?_ _) | (with_reducible refine Kd.C_drew ?_)))
                         (case side6 => exact (Kd.V_reads' HO_310002.out).2.1)
                         rintro e w85 ⟨rfl, hb⟩
                         have HS7_ := (hb.cell (World.block_lt_of_cell? _ _ (hHeld.2.2.2.2.2.2.2.1))).trans (hHeld.2.2.2.2.2.2.2.1)
                         have HS8_ := (hb.cell (World.block_lt_of_cell? _ _ (hHeld.2.2.2.2.2.2.2.2))).trans (hHeld.2.2.2.2.2.2.2.2)
                         refine ⟨_, rfl, ?_⟩
                         have n0_ := Aside0.mk (Kd.R_below (go_R HO_15.out) hb)
                         have n1_ := Aside0.mk (Kd.V_below (go_V HO_310000.out) hb)
                         have n2_ := Aside0.mk (Kd.V_below (go_V HO_310001.out) hb)
                         have n3_ := Aside0.mk (Kd.V_below (go_V HO_310002.out) hb)
                         have n4_ := Aside0.mk (Kd.V_below (go_V HO_346003.out) hb)
                         have n5_ := Aside0.mk (blk_below (g := gb309) (o := .cells #[.slice Ao24 t310.length co24, .slice Ao26 t313.length co26, .slice (some ad350) t316.length co27] 68 (0, 0)) (go_k BK309.out) hb)
                         have n6_ := Aside0.mk (blk_below (g := gb345) (o := .cells #[.int .i64 t339, .int .i64 t340, .int .i64 t341, .slice Ao67 t342.length co67] 33 (0, 0)) (go_k BK345.out) hb)
                         have n7_ := Aside0.mk (blk_below (g := gb351) (o := .cells #[.int .i64 ((rd_T33 t316 a1).f0), .int .i64 ((rd_T33 t316 a1).f1), .int .i64 ((rd_T33 t316 a1).f2), .slice (some ad353) ((rd_T33 t316 a1).f3).length c350_3] 33 (0, 0)) (go_k BK351.out) hb)
                         have n8_ := Aside0.mk (Kd.C_below (by repeat (first | (with_reducible exact HR350_3.out) | (with_reducible refine Kd.C_alloc ?_ _) | (with_reducible refine Kd.C_drewN ?_ _) | (with_reducible refine Kd.C_drew ?_) | exact HR350_3.out)) hb)
                         have n9_ := Aside0.mk (below_step (go_b3 HB.out GE309.out GE345.out GE351.out) hb)
                         clear HO_15
                         clear HO_310000
                         clear HO_310001
                         clear HO_310002
                         clear HO_346003
                         clear BK309
                         clear BK345
                         clear BK351
                         clear HR350_3
                         clear HB
                         have HO_15 := n0_
                         have HO_310000 := n1_
                         have HO_310001 := n2_
                         have HO_310002 := n3_
                         have HO_346003 := n4_
                         have BK309 := n5_
                         have BK345 := n6_
                         have BK351 := n7_
                         have HR350_3 := n8_
                         have HB := n9_
                         clear n0_ n1_ n2_ n3_ n4_ n5_ n6_ n7_ n8_ n9_
                         (try clear hb)
                         (try clear hb2)
                         (try clear hk)
                         (try clear hi)
                         refine hK.out _ _ ⟨(blk_cell BK309.out 0).trans rfl, (blk_cell BK309.out 1).trans rfl, (blk_cell BK309.out 2).trans rfl, (blk_cell BK351.out 0).trans rfl, (blk_cell BK351.out 1).trans rfl, (blk_cell BK351.out 2).trans rfl, (blk_cell BK351.out 3).trans rfl, HS7_, HS8_⟩ (fun hHeld => ?_)
                         clear hK K
                         refine norm_ (a' := ?_) ?_ ?_; rotate_left; { show Act.put _ (some 237) _ = _; simp only [Act.put, List.setIfInBounds_toArray, List.set_cons_zero, List.set_cons_succ, i64_w, i32_w]; rfl }
                         refine pure_ (i := 16) (N := some 238) (v := ?_) (a' := ?_) (bl_ 17 131071) rfl rfl (any_of HT_.out (by kernel_rfl)) (fun _ _ _ h => h) (Or.inl ⟨by rfl, ?_⟩) ?_ ?_; rotate_left; { intro w'; go_simp; with_reducible rfl }; rotate_left; { simp only [Act.put, List.setIfInBounds_toArray, List.set_cons_zero, List.set_cons_succ, i64_w, i32_w]; rfl }
                         refine done_ (done_of HT_.out (by kernel_rfl)) ?_
                         try go_wp2
                         go_roundg k2
                         case measure => have := HK1.out; have := HK2.out; omega
                         case rel => exact ⟨(wrap64 (x219_2 + 1)), (by first | rfl | (simp; done) | (simp [*]; done)), H', ⟨by have := HK1.out; have := HK2.out; omega⟩, ⟨by (with_reducible repeat (first | apply Kd.R_alloc | apply Kd.R_drewN | apply Kd.R_drew)); exact HO_15.out⟩, ⟨by (with_reducible repeat (first | apply Kd.V_alloc | apply Kd.V_drewN | apply Kd.V_drew)); exact HO_310000.out⟩, ⟨by (with_reducible repeat (first | apply Kd.V_alloc | apply Kd.V_drewN | apply Kd.V_drew)); exact HO_310001.out⟩, ⟨by (with_reducible repeat (first | apply Kd.V_alloc | apply Kd.V_drewN | apply Kd.V_drew)); exact HO_310002.out⟩, ⟨by (with_reducible repeat (first | apply Kd.V_alloc | apply Kd.V_drewN | apply Kd.V_drew)); exact HO_346003.out⟩, ⟨by (with_reducible repeat (first | refine blk_drewN ?_ _ | refine blk_drew ?_ | refine blk_alloc ?_ _)); exact BK309.out⟩, ⟨by (with_reducible repeat (first | refine blk_drewN ?_ _ | refine blk_drew ?_ | refine blk_alloc ?_ _)); exact BK345.out⟩, ⟨by (with_reducible repeat (first | refine blk_drewN ?_ _ | refine blk_drew ?_ | refine blk_alloc ?_ _)); exact BK351.out⟩, ⟨by repeat (first | (with_reducible exact HR350_3.out) | (with_reducible refine Kd.C_alloc ?_ _) | (with_reducible refine Kd.C_drewN ?_ _) | (with_reducible refine Kd.C_drew ?_) | exact HR350_3.out)⟩, ⟨by repeat (first | (with_reducible first | exact HB.out | apply below_alloc | apply pw_below_drewN | apply below_drew1 | refine below_set ?_ GE309.out | refine below_set ?_ GE345.out | refine below_set ?_ GE351.out) | exact HB.out)⟩⟩
                        ·rw [if_neg c83] at H
                         have c83b0 : ((rdOf ByteArray.empty t346 x219_2).toList == t354.toList) = false := beq_eq_false_iff_ne.mpr c83
                         have c83b1 : ((rdOf ByteArray.empty t346 x219_2).toList != t354.toList) = true := bne_iff_ne.mpr c83
                         exact absurd ((Option.some.inj H).trans HRT.out) (by decide)
                       ·rw [if_neg c81] at H
                        exact absurd H (by simp)
                      ·rw [if_neg c80] at H
                       exact absurd H (by simp)
                     ·rw [if_neg c79] at H
                      exact absurd H (by simp)
                    ·rw [if_neg c78] at H
                     have c78b0 : decide (x219_2 < (t346.length : Int)) = false := decide_eq_false c78
                     clear c78
                     replace H := Option.bind_eq_some_iff.mp H
                     obtain ⟨t355, A860, H⟩ := H
                     replace H : (some t355) = some r := H
                     have A86 := Aside0.mk A860
                     clear A860
                     obtain rfl := Option.some.inj H
                     go_wp2_with (first | ((with_reducible refine gate_callee (f := 45) rfl ?_); refine goesL_ (some 240) rfl rfl Tryd.func45 (by kernel_rfl) rfl #[] rfl (by (try simp only [List.map_toArray, List.map_cons, List.map_nil]); first | done | rfl | (simp only [List.length_drop, List.length_take]; rfl)) ?_; (with_reducible refine (cavillaw15_works.calls k2  t355 _ A86.out).mono ?_); rintro e w87 ⟨rfl, hb⟩; refine ⟨_, rfl, ?_⟩; have n0_ := Aside0.mk (Kd.R_below (go_R HO_15.out) hb); have n1_ := Aside0.mk (Kd.V_below (go_V HO_310000.out) hb); have n2_ := Aside0.mk (Kd.V_below (go_V HO_310001.out) hb); have n3_ := Aside0.mk (Kd.V_below (go_V HO_310002.out) hb); have n4_ := Aside0.mk (Kd.V_below (go_V HO_346003.out) hb); have n5_ := Aside0.mk (blk_below (g := gb309) (o := .cells #[.slice Ao24 t310.length co24, .slice Ao26 t313.length co26, .slice (some ad350) t316.length co27] 68 (0, 0)) (go_k BK309.out) hb); have n6_ := Aside0.mk (blk_below (g := gb345) (o := .cells #[.int .i64 t339, .int .i64 t340, .int .i64 t341, .slice Ao67 t342.length co67] 33 (0, 0)) (go_k BK345.out) hb); have n7_ := Aside0.mk (blk_below (g := gb351) (o := .cells #[.int .i64 ((rd_T33 t316 a1).f0), .int .i64 ((rd_T33 t316 a1).f1), .int .i64 ((rd_T33 t316 a1).f2), .slice A350_3 ((rd_T33 t316 a1).f3).length c350_3] 33 (0, 0)) (go_k BK351.out) hb); have n8_ := Aside0.mk (Kd.C_below (by repeat (first | (with_reducible exact HR350_3.out) | (with_reducible refine Kd.C_alloc ?_ _) | (with_reducible refine Kd.C_drewN ?_ _) | (with_reducible refine Kd.C_drew ?_) | exact HR350_3.out)) hb); have n9_ := Aside0.mk (below_step (go_b3 HB.out GE309.out GE345.out GE351.out) hb); clear HO_15; clear HO_310000; clear HO_310001; clear HO_310002; clear HO_346003; clear BK309; clear BK345; clear BK351; clear HR350_3; clear HB; have HO_15 := n0_; have HO_310000 := n1_; have HO_310001 := n2_; have HO_310002 := n3_; have HO_346003 := n4_; have BK309 := n5_; have BK345 := n6_; have BK351 := n7_; have HR350_3 := n8_; have HB := n9_; clear n0_ n1_ n2_ n3_ n4_ n5_ n6_ n7_ n8_ n9_; (try clear hb); (try clear hb2); (try clear hk); (try clear hi)))
                     go_ret
                     exact ⟨by first | rfl | (simp [*, errW_none, errW_some, erT_no, erV_no, erT_at, erV_at] <;> rfl), by repeat (first | (with_reducible first | exact HB.out | apply below_alloc | apply pw_below_drewN | apply below_drew1 | refine below_set ?_ GE309.out | refine below_set ?_ GE345.out | refine below_set ?_ GE351.out) | exact HB.out)⟩
                 ·rw [if_neg c62] at H
                  have c62b0 : ((t346.length : Int) == (((rd_T33 t316 a1).f3).length : Int)) = false := beq_eq_false_iff_ne.mpr c62
                  have c62b1 : ((t346.length : Int) != (((rd_T33 t316 a1).f3).length : Int)) = true := bne_iff_ne.mpr c62
                  have c62b2 : (t346.length == ((rd_T33 t316 a1).f3).length) = false := by first | simpa using c62 | (simp at c62 ⊢; omega)
                  exact absurd ((Option.some.inj H).trans HRT.out) (by decide)
                ·rw [if_neg c61] at H
                 have c61b0 : ((t342.length : Int) == (((rd_T33 t316 a1).f3).length : Int)) = false := beq_eq_false_iff_ne.mpr c61
                 have c61b1 : ((t342.length : Int) != (((rd_T33 t316 a1).f3).length : Int)) = true := bne_iff_ne.mpr c61
                 have c61b2 : (t342.length == ((rd_T33 t316 a1).f3).length) = false := by first | simpa using c61 | (simp at c61 ⊢; omega)
                 exact absurd ((Option.some.inj H).trans HRT.out) (by decide)
               ·rw [if_neg c60] at H
                have c60b0 : (t341 == ((rd_T33 t316 a1).f2)) = false := beq_eq_false_iff_ne.mpr c60
                have c60b1 : (t341 != ((rd_T33 t316 a1).f2)) = true := bne_iff_ne.mpr c60
                exact absurd ((Option.some.inj H).trans HRT.out) (by decide)
              ·rw [if_neg c59] at H
               have c59b0 : (t340 == ((rd_T33 t316 a1).f1)) = false := beq_eq_false_iff_ne.mpr c59
               have c59b1 : (t340 != ((rd_T33 t316 a1).f1)) = true := bne_iff_ne.mpr c59
               exact absurd ((Option.some.inj H).trans HRT.out) (by decide)
             ·rw [if_neg c58] at H
              have c58b0 : (t339 == ((rd_T33 t316 a1).f0)) = false := beq_eq_false_iff_ne.mpr c58
              have c58b1 : (t339 != ((rd_T33 t316 a1).f0)) = true := bne_iff_ne.mpr c58
              exact absurd ((Option.some.inj H).trans HRT.out) (by decide)
            ·rw [if_neg c57] at H
             exact absurd H (by simp)
           ·rw [if_neg c56] at H
            exact absurd H (by simp)
          ·replace c55 := Bool.eq_false_iff.mpr c55
           subst c55
           have H1 : (if t339 = 0 then (if (wrap64 ((t342.length : Int) + (t346.length : Int))) = 0 then (if t341 = 0 then ((cavillaw15_works.f k1).bind fun t356 => (some t356)) else (some false)) else (some false)) else (some false)) = some r := by rw [if_neg (show ¬ (false = true) by decide)] at H; exact H
           clear H
           have H := H1
           clear H1
           by_cases c88 : t339 = 0
           ·rw [if_pos c88] at H
            have c88b0 : (t339 == 0) = true := beq_iff_eq.mpr c88
            have c88b1 : (t339 != 0) = false := bne_eq_false_iff_eq.mpr c88
            clear c88
            by_cases c89 : (wrap64 ((t342.length : Int) + (t346.length : Int))) = 0
            ·rw [if_pos c89] at H
             have c89b0 : ((wrap64 ((t342.length : Int) + (t346.length : Int))) == 0) = true := beq_iff_eq.mpr c89
             have c89b1 : ((wrap64 ((t342.length : Int) + (t346.length : Int))) != 0) = false := bne_eq_false_iff_eq.mpr c89
             (try (have c89b2 : ((IntKind.i64.wrap ((t342.length : Int) + (t346.length : Int))) == 0) = true := by simp only [i64_w]; exact beq_iff_eq.mpr c89))
             (try (have c89b3 : ((IntKind.i64.wrap ((t342.length : Int) + (t346.length : Int))) != 0) = false := by simp only [i64_w]; exact bne_eq_false_iff_eq.mpr c89))
             clear c89
             by_cases c90 : t341 = 0
             ·rw [if_pos c90] at H
              have c90b0 : (t341 == 0) = true := beq_iff_eq.mpr c90
              have c90b1 : (t341 != 0) = false := bne_eq_false_iff_eq.mpr c90
              clear c90
              replace H := Option.bind_eq_some_iff.mp H
              obtain ⟨t356, A910, H⟩ := H
              replace H : (some t356) = some r := H
              have A91 := Aside0.mk A910
              clear A910
              obtain rfl := Option.some.inj H
              go_wp2_with (first | ((with_reducible refine gate_callee (f := 40) rfl ?_); refine goesL_ (some 146) rfl rfl Tryd.func40 (by kernel_rfl) rfl #[.pointer (some ado31), .int .i64 a1] rfl (by (try simp only [List.map_toArray, List.map_cons, List.map_nil]); first | done | rfl | (simp only [List.length_drop, List.length_take]; rfl)) ?_; (with_reducible refine (view_File_Node.calls (fun k_ => (some k_ ≠ (.slice Ao40 t327.length co40 : Value).ownBlock ∧ (some k_ ≠ (.slice Ao41 t330.length co41 : Value).ownBlock ∧ k_ ≠ gb309))) _ co31 t319 a1 t339 t340 t341 t342 _ ?side1 A52.out).mono ?_); (case side1 => exact HO_7.out); rintro e w92 ⟨v343, rfl, ho0, hb⟩; refine ⟨_, rfl, ?_⟩; have n0_ := Aside0.mk (Kd.V_below (go_V HO_7.out) hb); have n1_ := Aside0.mk (Kd.R_below (go_R HO_11.out) hb); have n2_ := Aside0.mk (Kd.R_below (go_R HO_12.out) hb); have n3_ := Aside0.mk (Kd.V_below (go_V HO_310000.out) hb); have n4_ := Aside0.mk (Kd.V_below (go_V HO_310001.out) hb); have n5_ := Aside0.mk (Kd.V_below (go_V HO_310002.out) hb); have n6_ := Aside0.mk (Kd.V_lower (Kd.V_mono (ok' := fun k_ => some k_ ≠ (.slice Ao40 t327.length co40 : Value).ownBlock ∧ some k_ ≠ (.slice Ao41 t330.length co41 : Value).ownBlock ∧ k_ ≠ gb309) ho0 (fun k_ hk_ => ⟨Or.elim hk_ (fun hs_ => hs_.1) (fun hn_ => (Kd.fresh' (Kd.R_lt (go_R HO_11.out)) k_ hn_)), Or.elim hk_ (fun hs_ => hs_.2.1) (fun hn_ => (Kd.fresh' (Kd.R_lt (go_R HO_12.out)) k_ hn_)), Or.elim hk_ (fun hs_ => hs_.2.2) (fun hn_ => (Kd.freshB (g := gb309) (o := .cells #[.slice Ao24 t310.length co24, .slice Ao26 t313.length co26, .slice Ao27 t316.length co27] 68 (0, 0)) (go_k BK309.out) k_ hn_))⟩)) (below_size (go_b1 HB.out GE309.out))); have n7_ := Aside0.mk (blk_below (g := gb309) (o := .cells #[.slice Ao24 t310.length co24, .slice Ao26 t313.length co26, .slice Ao27 t316.length co27] 68 (0, 0)) (go_k BK309.out) hb); have n8_ := Aside0.mk (below_step (go_b1 HB.out GE309.out) hb); clear HO_7; clear HO_11; clear HO_12; clear HO_310000; clear HO_310001; clear HO_310002; clear BK309; clear HB; have HO_7 := n0_; have HO_11 := n1_; have HO_12 := n2_; have HO_310000 := n3_; have HO_310001 := n4_; have HO_310002 := n5_; have HO344 := n6_; have BK309 := n7_; have HB := n8_; clear n0_ n1_ n2_ n3_ n4_ n5_ n6_ n7_ n8_; (try clear hb); (try clear hb2); (try clear hk); (try clear hi); (try clear ho0)) | ((with_reducible refine gate_dst (N := 14) rfl ?_); (try (refine gate_guard (by rfl) ?_; dsimp only)); refine box_event ?hg (N := 14) ?hd (cs := #[.int .i64 0, .int .i64 0, .int .i64 0, .slice none 0 0]) (t := 33) ?hr ?_; (case hd => rfl); (case hg => rfl); (case hr => first | (go_simp; done) | (go_simp; rfl)); intro gb345 hg w93 hbox hb; have n0_ := Aside0.mk (Kd.V_below (Kd.V_elderB (go_V HO_7.out) gb345 (Nat.le_of_eq hg.symm)) hb); have n1_ := Aside0.mk (Kd.R_below (go_R HO_11.out) hb); have n2_ := Aside0.mk (Kd.R_below (go_R HO_12.out) hb); have n3_ := Aside0.mk (Kd.V_below (Kd.V_elderB (go_V HO_310000.out) gb345 (Nat.le_of_eq hg.symm)) hb); have n4_ := Aside0.mk (Kd.V_below (Kd.V_elderB (go_V HO_310001.out) gb345 (Nat.le_of_eq hg.symm)) hb); have n5_ := Aside0.mk (Kd.V_below (Kd.V_elderB (go_V HO_310002.out) gb345 (Nat.le_of_eq hg.symm)) hb); have n6_ := Aside0.mk (Kd.V_below (Kd.V_elderB (go_V HO344.out) gb345 (Nat.le_of_eq hg.symm)) hb); have n7_ := Aside0.mk (blk_below (g := gb309) (o := .cells #[.slice Ao24 t310.length co24, .slice Ao26 t313.length co26, .slice Ao27 t316.length co27] 68 (0, 0)) (go_k BK309.out) hb); have n8_ := Aside0.mk (below_step (go_b1 HB.out GE309.out) hb); have n9_ := Aside0.mk (hbox); have n10_ := Aside0.mk ((by rw [hg]; exact (below_size (go_b1 HB.out GE309.out)) : w.heap.size ≤ gb345)); have n11_ := Aside0.mk ((by rw [hg]; exact (below_size (go_b1 HB.out GE309.out)) : w.heap.size ≤ gb345)); have n12_ := Aside0.mk ((by rw [hg]; exact Nat.ne_of_lt (blk_lt (g := gb309) (o := .cells #[.slice Ao24 t310.length co24, .slice Ao26 t313.length co26, .slice Ao27 t316.length co27] 68 (0, 0)) (go_k BK309.out)) : gb309 ≠ gb345)); have n13_ := Aside0.mk ((by rw [hg]; exact Nat.ne_of_gt (blk_lt (g := gb309) (o := .cells #[.slice Ao24 t310.length co24, .slice Ao26 t313.length co26, .slice Ao27 t316.length co27] 68 (0, 0)) (go_k BK309.out)) : gb345 ≠ gb309)); clear HO_7; clear HO_11; clear HO_12; clear HO_310000; clear HO_310001; clear HO_310002; clear HO344; clear BK309; clear HB; have HO_7 := n0_; have HO_11 := n1_; have HO_12 := n2_; have HO_310000 := n3_; have HO_310001 := n4_; have HO_310002 := n5_; have HO344 := n6_; have BK309 := n7_; have HB := n8_; have BK345 := n9_; have GW345 := n10_; have GE345 := n11_; have NB309_345 := n12_; have NB345_309 := n13_; clear n0_ n1_ n2_ n3_ n4_ n5_ n6_ n7_ n8_ n9_ n10_ n11_ n12_ n13_; clear hb hbox hg; have hnb94 := NB345_309.out; have hnc94 := NB309_345.out; have hcz95_0 : w93.cell? ⟨gb345, 0, none⟩ = some (.int .i64 0) := (blk_cell BK345.out 0).trans rfl; have hcz95_1 : w93.cell? ⟨gb345, 1, none⟩ = some (.int .i64 0) := (blk_cell BK345.out 1).trans rfl; have hcz95_2 : w93.cell? ⟨gb345, 2, none⟩ = some (.int .i64 0) := (blk_cell BK345.out 2).trans rfl; have hcz95_3 : w93.cell? ⟨gb345, 3, none⟩ = some (.slice none 0 0) := (blk_cell BK345.out 3).trans rfl; have hfz95_0 := blk_frozen BK345.out 0; have hfz95_1 := blk_frozen BK345.out 1; have hfz95_2 := blk_frozen BK345.out 2; have hfz95_3 := blk_frozen BK345.out 3; obtain ⟨Ao96, co96, eo96⟩ := Kd.V_slice HO344.out; subst eo96) | ((with_reducible refine gate_callee (f := 43) rfl ?_); refine goesL_ (some 149) rfl rfl Tryd.func43 (by kernel_rfl) rfl #[.pointer (some ado31), .int .i64 a1] rfl (by (try simp only [List.map_toArray, List.map_cons, List.map_nil]); first | done | rfl | (simp only [List.length_drop, List.length_take]; rfl)) ?_; (with_reducible refine (view_File_Words.calls k1 _ co31 t319 a1 t346 _ ?side1 ?side2 A53.out).mono ?_); (case side1 => refine (Kd.V_reads' (e := 100) (base := w.heap.size) (ok := fun k_ => ((some k_ ≠ (.slice Ao40 t327.length co40 : Value).ownBlock ∧ (some k_ ≠ (.slice Ao41 t330.length co41 : Value).ownBlock ∧ k_ ≠ gb309)) ∧ k_ ≠ gb345)) (n := t319.length) (c := co31) ?_).2.2; exact (by (with_reducible repeat (first | apply Kd.V_alloc | apply Kd.V_drewN | apply Kd.V_drew)); exact (Kd.V_mono (Kd.V_far (p := ⟨gb345, 3, none⟩) (Kd.V_far (p := ⟨gb345, 2, none⟩) (Kd.V_far (p := ⟨gb345, 1, none⟩) (Kd.V_far (p := ⟨gb345, 0, none⟩) (Kd.V_mono HO_7.out (fun k_ hk => (⟨hk, hk.2⟩ : _ ∧ k_ ≠ gb345))) (fun _ hk => hk.2) (.int .i64 t339)) (fun _ hk => hk.2) (.int .i64 t340)) (fun _ hk => hk.2) (.int .i64 t341)) (fun _ hk => hk.2) (.slice Ao96 t342.length co96)) (fun _ h_ => h_.1)))); (case side2 => exact (Kd.V_reads' HO_7.out).2.1); rintro e w97 ⟨v347, rfl, ho0, hb⟩; refine ⟨_, rfl, ?_⟩; have n0_ := Aside0.mk (Kd.V_elder' (by (with_reducible repeat (first | apply Kd.V_alloc | apply Kd.V_drewN | apply Kd.V_drew)); exact (Kd.V_mono (Kd.V_far (p := ⟨gb345, 3, none⟩) (Kd.V_far (p := ⟨gb345, 2, none⟩) (Kd.V_far (p := ⟨gb345, 1, none⟩) (Kd.V_far (p := ⟨gb345, 0, none⟩) (Kd.V_mono HO_7.out (fun k_ hk => (⟨hk, hk.2⟩ : _ ∧ k_ ≠ gb345))) (fun _ hk => hk.2) (.int .i64 t339)) (fun _ hk => hk.2) (.int .i64 t340)) (fun _ hk => hk.2) (.int .i64 t341)) (fun _ hk => hk.2) (.slice Ao96 t342.length co96)) (fun _ h_ => h_.1))) (Kd.R_base ho0) hb); have n1_ := Aside0.mk (Kd.R_below (by (with_reducible repeat (first | apply Kd.R_alloc | apply Kd.R_drewN | apply Kd.R_drew)); exact (Kd.R_mono (Kd.R_far (p := ⟨gb345, 3, none⟩) (Kd.R_far (p := ⟨gb345, 2, none⟩) (Kd.R_far (p := ⟨gb345, 1, none⟩) (Kd.R_far (p := ⟨gb345, 0, none⟩) (Kd.R_types HO_11.out BK345.out (by decide)) (fun _ hk => hk.2) (.int .i64 t339)) (fun _ hk => hk.2) (.int .i64 t340)) (fun _ hk => hk.2) (.int .i64 t341)) (fun _ hk => hk.2) (.slice Ao96 t342.length co96)) (fun _ h_ => h_.1))) hb); have n2_ := Aside0.mk (Kd.R_below (by (with_reducible repeat (first | apply Kd.R_alloc | apply Kd.R_drewN | apply Kd.R_drew)); exact (Kd.R_mono (Kd.R_far (p := ⟨gb345, 3, none⟩) (Kd.R_far (p := ⟨gb345, 2, none⟩) (Kd.R_far (p := ⟨gb345, 1, none⟩) (Kd.R_far (p := ⟨gb345, 0, none⟩) (Kd.R_types HO_12.out BK345.out (by decide)) (fun _ hk => hk.2) (.int .i64 t339)) (fun _ hk => hk.2) (.int .i64 t340)) (fun _ hk => hk.2) (.int .i64 t341)) (fun _ hk => hk.2) (.slice Ao96 t342.length co96)) (fun _ h_ => h_.1))) hb); have n3_ := Aside0.mk (Kd.V_elder' (by (with_reducible repeat (first | apply Kd.V_alloc | apply Kd.V_drewN | apply Kd.V_drew)); exact (Kd.V_mono (Kd.V_far (p := ⟨gb345, 3, none⟩) (Kd.V_far (p := ⟨gb345, 2, none⟩) (Kd.V_far (p := ⟨gb345, 1, none⟩) (Kd.V_far (p := ⟨gb345, 0, none⟩) (Kd.V_mono HO_310000.out (fun k_ hk => (⟨hk, hk.2⟩ : _ ∧ k_ ≠ gb345))) (fun _ hk => hk.2) (.int .i64 t339)) (fun _ hk => hk.2) (.int .i64 t340)) (fun _ hk => hk.2) (.int .i64 t341)) (fun _ hk => hk.2) (.slice Ao96 t342.length co96)) (fun _ h_ => h_.1))) (Kd.R_base ho0) hb); have n4_ := Aside0.mk (Kd.V_elder' (by (with_reducible repeat (first | apply Kd.V_alloc | apply Kd.V_drewN | apply Kd.V_drew)); exact (Kd.V_mono (Kd.V_far (p := ⟨gb345, 3, none⟩) (Kd.V_far (p := ⟨gb345, 2, none⟩) (Kd.V_far (p := ⟨gb345, 1, none⟩) (Kd.V_far (p := ⟨gb345, 0, none⟩) (Kd.V_mono HO_310001.out (fun k_ hk => (⟨hk, hk.2⟩ : _ ∧ k_ ≠ gb345))) (fun _ hk => hk.2) (.int .i64 t339)) (fun _ hk => hk.2) (.int .i64 t340)) (fun _ hk => hk.2) (.int .i64 t341)) (fun _ hk => hk.2) (.slice Ao96 t342.length co96)) (fun _ h_ => h_.1))) (Kd.R_base ho0) hb); have n5_ := Aside0.mk (Kd.V_elder' (by (with_reducible repeat (first | apply Kd.V_alloc | apply Kd.V_drewN | apply Kd.V_drew)); exact (Kd.V_mono (Kd.V_far (p := ⟨gb345, 3, none⟩) (Kd.V_far (p := ⟨gb345, 2, none⟩) (Kd.V_far (p := ⟨gb345, 1, none⟩) (Kd.V_far (p := ⟨gb345, 0, none⟩) (Kd.V_mono HO_310002.out (fun k_ hk => (⟨hk, hk.2⟩ : _ ∧ k_ ≠ gb345))) (fun _ hk => hk.2) (.int .i64 t339)) (fun _ hk => hk.2) (.int .i64 t340)) (fun _ hk => hk.2) (.int .i64 t341)) (fun _ hk => hk.2) (.slice Ao96 t342.length co96)) (fun _ h_ => h_.1))) (Kd.R_base ho0) hb); have n6_ := Aside0.mk (Kd.V_elder' (by (with_reducible repeat (first | apply Kd.V_alloc | apply Kd.V_drewN | apply Kd.V_drew)); exact (Kd.V_mono (Kd.V_far (p := ⟨gb345, 3, none⟩) (Kd.V_far (p := ⟨gb345, 2, none⟩) (Kd.V_far (p := ⟨gb345, 1, none⟩) (Kd.V_far (p := ⟨gb345, 0, none⟩) (Kd.V_mono HO344.out (fun k_ hk => (⟨hk, hk.2⟩ : _ ∧ k_ ≠ gb345))) (fun _ hk => hk.2) (.int .i64 t339)) (fun _ hk => hk.2) (.int .i64 t340)) (fun _ hk => hk.2) (.int .i64 t341)) (fun _ hk => hk.2) (.slice Ao96 t342.length co96)) (fun _ h_ => h_.1))) (Kd.R_base ho0) hb); have n7_ := Aside0.mk (Kd.R_lower ho0 (below_size (go_b2 HB.out GE309.out GE345.out))); have n8_ := Aside0.mk (blk_below (g := gb309) (o := .cells #[.slice Ao24 t310.length co24, .slice Ao26 t313.length co26, .slice Ao27 t316.length co27] 68 (0, 0)) (by (with_reducible repeat (first | refine blk_drewN ?_ _ | refine blk_drew ?_ | refine blk_alloc ?_ _)); refine blk_far ?_ NB309_345.out _; refine blk_far ?_ NB309_345.out _; refine blk_far ?_ NB309_345.out _; refine blk_far ?_ NB309_345.out _; (with_reducible repeat (first | refine blk_drewN ?_ _ | refine blk_drew ?_ | refine blk_alloc ?_ _)); exact BK309.out) hb); have n9_ := Aside0.mk (blk_below (g := gb345) (o := .cells #[.int .i64 t339, .int .i64 t340, .int .i64 t341, .slice Ao96 t342.length co96] 33 (0, 0)) (by (with_reducible repeat (first | refine blk_drewN ?_ _ | refine blk_drew ?_ | refine blk_alloc ?_ _)); refine blk_put (cs := #[.int .i64 t339, .int .i64 t340, .int .i64 t341, .slice none 0 0]) ?_ 3 _ rfl; refine blk_put (cs := #[.int .i64 t339, .int .i64 t340, .int .i64 0, .slice none 0 0]) ?_ 2 _ rfl; refine blk_put (cs := #[.int .i64 t339, .int .i64 0, .int .i64 0, .slice none 0 0]) ?_ 1 _ rfl; refine blk_put (cs := #[.int .i64 0, .int .i64 0, .int .i64 0, .slice none 0 0]) ?_ 0 _ rfl; (with_reducible repeat (first | refine blk_drewN ?_ _ | refine blk_drew ?_ | refine blk_alloc ?_ _)); exact BK345.out) hb); have n10_ := Aside0.mk (below_step (go_b2 HB.out GE309.out GE345.out) hb); clear HO_7; clear HO_11; clear HO_12; clear HO_310000; clear HO_310001; clear HO_310002; clear HO344; clear BK309; clear BK345; clear HB; have HO_7 := n0_; have HO_11 := n1_; have HO_12 := n2_; have HO_310000 := n3_; have HO_310001 := n4_; have HO_310002 := n5_; have HO344 := n6_; have HO348 := n7_; have BK309 := n8_; have BK345 := n9_; have HB := n10_; clear n0_ n1_ n2_ n3_ n4_ n5_ n6_ n7_ n8_ n9_ n10_; (try clear hb); (try clear hb2); (try clear hk); (try clear hi); (try clear ho0); have hcz98_0 : w97.cell? ⟨gb309, 0, none⟩ = some (.slice Ao24 t310.length co24) := (blk_cell BK309.out 0).trans rfl; have hcz98_1 : w97.cell? ⟨gb309, 1, none⟩ = some (.slice Ao26 t313.length co26) := (blk_cell BK309.out 1).trans rfl; have hcz98_2 : w97.cell? ⟨gb309, 2, none⟩ = some (.slice Ao27 t316.length co27) := (blk_cell BK309.out 2).trans rfl; have hfz98_0 := blk_frozen BK309.out 0; have hfz98_1 := blk_frozen BK309.out 1; have hfz98_2 := blk_frozen BK309.out 2) | ((with_reducible refine gate_callee (f := 49) rfl ?_); refine goesL_ (some 153) rfl rfl Tryd.func49 (by kernel_rfl) rfl #[.agg #[.slice Ao27 t316.length co27], .int .i64 a1] rfl (by (try simp only [List.map_toArray, List.map_cons, List.map_nil]); first | done | rfl | (simp only [List.length_drop, List.length_take]; rfl)) ?_; (with_reducible refine (cavilref15_In.calls _ _ t316 a1 false _ ?side1 ?side2 A54.out).mono ?_); (case side1 => repeat (first | exact (Kd.V_reads' HO_310002.out).2.2 | (with_reducible refine Kd.C_alloc ?_ _) | (with_reducible refine Kd.C_drewN ?_ _) | (with_reducible refine Kd.C_drew ?_))); (case side2 => exact (Kd.V_reads' HO_310002.out).2.1); rintro e w99 ⟨rfl, hb⟩; refine ⟨_, rfl, ?_⟩; have n0_ := Aside0.mk (Kd.V_below (go_V HO_7.out) hb); have n1_ := Aside0.mk (Kd.R_below (go_R HO_11.out) hb); have n2_ := Aside0.mk (Kd.R_below (go_R HO_12.out) hb); have n3_ := Aside0.mk (Kd.V_below (go_V HO_310000.out) hb); have n4_ := Aside0.mk (Kd.V_below (go_V HO_310001.out) hb); have n5_ := Aside0.mk (Kd.V_below (go_V HO_310002.out) hb); have n6_ := Aside0.mk (Kd.V_below (go_V HO344.out) hb); have n7_ := Aside0.mk (Kd.R_below (go_R HO348.out) hb); have n8_ := Aside0.mk (blk_below (g := gb309) (o := .cells #[.slice Ao24 t310.length co24, .slice Ao26 t313.length co26, .slice Ao27 t316.length co27] 68 (0, 0)) (go_k BK309.out) hb); have n9_ := Aside0.mk (blk_below (g := gb345) (o := .cells #[.int .i64 t339, .int .i64 t340, .int .i64 t341, .slice Ao96 t342.length co96] 33 (0, 0)) (go_k BK345.out) hb); have n10_ := Aside0.mk (below_step (go_b2 HB.out GE309.out GE345.out) hb); clear HO_7; clear HO_11; clear HO_12; clear HO_310000; clear HO_310001; clear HO_310002; clear HO344; clear HO348; clear BK309; clear BK345; clear HB; have HO_7 := n0_; have HO_11 := n1_; have HO_12 := n2_; have HO_310000 := n3_; have HO_310001 := n4_; have HO_310002 := n5_; have HO344 := n6_; have HO348 := n7_; have BK309 := n8_; have BK345 := n9_; have HB := n10_; clear n0_ n1_ n2_ n3_ n4_ n5_ n6_ n7_ n8_ n9_ n10_; (try clear hb); (try clear hb2); (try clear hk); (try clear hi); have hcz100_0 : w99.cell? ⟨gb345, 0, none⟩ = some (.int .i64 t339) := (blk_cell BK345.out 0).trans rfl; have hcz100_1 : w99.cell? ⟨gb345, 1, none⟩ = some (.int .i64 t340) := (blk_cell BK345.out 1).trans rfl; have hcz100_2 : w99.cell? ⟨gb345, 2, none⟩ = some (.int .i64 t341) := (blk_cell BK345.out 2).trans rfl; have hcz100_3 : w99.cell? ⟨gb345, 3, none⟩ = some (.slice Ao96 t342.length co96) := (blk_cell BK345.out 3).trans rfl; have hfz100_0 := blk_frozen BK345.out 0; have hfz100_1 := blk_frozen BK345.out 1; have hfz100_2 := blk_frozen BK345.out 2; have hfz100_3 := blk_frozen BK345.out 3; obtain ⟨Ao101, co101, eo101⟩ := Kd.R_slice HO348.out; subst eo101) | (go_at_call 45; (with_reducible refine (cavillaw15_works.calls k1  t356 _ A91.out).mono ?_); rintro e w102 ⟨rfl, hb⟩; have n0_ := Aside0.mk (Kd.V_below (go_V HO_7.out) hb); have n1_ := Aside0.mk (Kd.R_below (go_R HO_11.out) hb); have n2_ := Aside0.mk (Kd.R_below (go_R HO_12.out) hb); have n3_ := Aside0.mk (Kd.V_below (go_V HO_310000.out) hb); have n4_ := Aside0.mk (Kd.V_below (go_V HO_310001.out) hb); have n5_ := Aside0.mk (Kd.V_below (go_V HO_310002.out) hb); have n6_ := Aside0.mk (Kd.V_below (go_V HO344.out) hb); have n7_ := Aside0.mk (Kd.R_below (go_R HO348.out) hb); have n8_ := Aside0.mk (blk_below (g := gb309) (o := .cells #[.slice Ao24 t310.length co24, .slice Ao26 t313.length co26, .slice Ao27 t316.length co27] 68 (0, 0)) (go_k BK309.out) hb); have n9_ := Aside0.mk (blk_below (g := gb345) (o := .cells #[.int .i64 t339, .int .i64 t340, .int .i64 t341, .slice Ao96 t342.length co96] 33 (0, 0)) (go_k BK345.out) hb); have n10_ := Aside0.mk (below_step (go_b2 HB.out GE309.out GE345.out) hb); clear HO_7; clear HO_11; clear HO_12; clear HO_310000; clear HO_310001; clear HO_310002; clear HO344; clear HO348; clear BK309; clear BK345; clear HB; have HO_7 := n0_; have HO_11 := n1_; have HO_12 := n2_; have HO_310000 := n3_; have HO_310001 := n4_; have HO_310002 := n5_; have HO344 := n6_; have HO348 := n7_; have BK309 := n8_; have BK345 := n9_; have HB := n10_; clear n0_ n1_ n2_ n3_ n4_ n5_ n6_ n7_ n8_ n9_ n10_; (try clear hb); (try clear hb2); (try clear hk); (try clear hi)))
              go_ret
              exact ⟨by first | rfl | (simp [*, errW_none, errW_some, erT_no, erV_no, erT_at, erV_at] <;> rfl), by repeat (first | (with_reducible first | exact HB.out | apply below_alloc | apply pw_below_drewN | apply below_drew1 | refine below_set ?_ GE309.out | refine below_set ?_ GE345.out) | exact HB.out)⟩
             ·rw [if_neg c90] at H
              have c90b0 : (t341 == 0) = false := beq_eq_false_iff_ne.mpr c90
              have c90b1 : (t341 != 0) = true := bne_iff_ne.mpr c90
              exact absurd ((Option.some.inj H).trans HRT.out) (by decide)
            ·rw [if_neg c89] at H
             have c89b0 : ((wrap64 ((t342.length : Int) + (t346.length : Int))) == 0) = false := beq_eq_false_iff_ne.mpr c89
             have c89b1 : ((wrap64 ((t342.length : Int) + (t346.length : Int))) != 0) = true := bne_iff_ne.mpr c89
             (try (have c89b2 : ((IntKind.i64.wrap ((t342.length : Int) + (t346.length : Int))) == 0) = false := by simp only [i64_w]; exact beq_eq_false_iff_ne.mpr c89))
             (try (have c89b3 : ((IntKind.i64.wrap ((t342.length : Int) + (t346.length : Int))) != 0) = true := by simp only [i64_w]; exact bne_iff_ne.mpr c89))
             exact absurd ((Option.some.inj H).trans HRT.out) (by decide)
           ·rw [if_neg c88] at H
            have c88b0 : (t339 == 0) = false := beq_eq_false_iff_ne.mpr c88
            have c88b1 : (t339 != 0) = true := bne_iff_ne.mpr c88
            exact absurd ((Option.some.inj H).trans HRT.out) (by decide)
      ·rw [if_neg c20] at H
       have c20b0 : (t335.toList == t336.toList) = false := beq_eq_false_iff_ne.mpr c20
       have c20b1 : (t335.toList != t336.toList) = true := bne_iff_ne.mpr c20
       exact absurd ((Option.some.inj H).trans HRT.out) (by decide)
     ·rw [if_neg c17] at H
      have c17b0 : (t333 == t334) = false := beq_eq_false_iff_ne.mpr c17
      have c17b1 : (t333 != t334) = true := bne_iff_ne.mpr c17
      exact absurd ((Option.some.inj H).trans HRT.out) (by decide)
    ·rw [if_neg c14] at H
     have c14b0 : ((t327.length : Int) == (t330.length : Int)) = false := beq_eq_false_iff_ne.mpr c14
     have c14b1 : ((t327.length : Int) != (t330.length : Int)) = true := bne_iff_ne.mpr c14
     have c14b2 : (t327.length == t330.length) = false := by first | simpa using c14 | (simp at c14 ⊢; omega)
     exact absurd ((Option.some.inj H).trans HRT.out) (by decide)
  ·rw [if_neg c10] at H
   have c10b0 : (t326 == t324) = false := beq_eq_false_iff_ne.mpr c10
   have c10b1 : (t326 != t324) = true := bne_iff_ne.mpr c10
   exact absurd ((Option.some.inj H).trans HRT.out) (by decide)
 ·rw [if_neg c8] at H
  have c8b0 : (t325 == t323) = false := beq_eq_false_iff_ne.mpr c8
  have c8b1 : (t325 != t323) = true := bne_iff_ne.mpr c8
  exact absurd ((Option.some.inj H).trans HRT.out) (by decide)

end Go.Proofs.YtnpgadfoohjlnaaDoor.QV
