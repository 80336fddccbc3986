/- Where a Lean function of this text answers, the Go function of its name comes to that answer: no other condition. Written by a program of this session out of the translation; Lean checks it. -/
import Derived.Test.YtnpgadfoohjlnaaDoorQT0
import Derived.Test.YtnpgadfoohjlnaaDoorQT1
import Derived.Test.YtnpgadfoohjlnaaDoorQT4
import Derived.Test.YtnpgadfoohjlnaaDoorQT5
import Derived.Test.YtnpgadfoohjlnaaDoorQT6
import Derived.Test.YtnpgadfoohjlnaaDoorQT7
import Derived.Test.YtnpgadfoohjlnaaDoorQT8
import Derived.Test.YtnpgadfoohjlnaaDoorQT9
import Derived.Test.YtnpgadfoohjlnaaDoorQT11
namespace Go.Proofs.YtnpgadfoohjlnaaDoor.QT
open Go.RowKit Go.Proofs.YtnpgadfoohjlnaaDoorW.PrintWords Go.Proofs.YtnpgadfoohjlnaaDoorW.PrintLast Go.Proofs.YtnpgadfoohjlnaaDoorW.PrintMore Go.Proofs.YtnpgadfoohjlnaaDoorW.PrintX
attribute [local go_sem] max2_int min2_int max_two min_two max_three min_three max_four min_four   -- for this text's walks alone
set_option linter.unusedVariables false
set_option linter.unusedSimpArgs false

/-! ### cavillaw13_TreeLooks: function 4 -/
mutual
def cavillaw13_TreeLooks.j0 : Nat → Int → List Int → List Int → Option Er → Bool → List (S33) → Option (Bool)
  | 0, _, _, _, _, _, _ => none
  | k + 1, x1, x9, x11, x12, x105, x254000 => if x105 = true then (some false) else (cavillaw13_TreeLooks.l0 k x1 x11 x12 x9 (x9.length : Int) 0 x254000)
def cavillaw13_TreeLooks.l0 : Nat → Int → List Int → Option Er → List Int → Int → Int → List (S33) → Option (Bool)
  | 0, _, _, _, _, _, _, _ => none
  | k + 1, x1, x11, x12, x106, x107, x108, x254000 => if x108 < x107 then (if 0 ≤ x108 then (if x108 < (x106.length : Int) then ((cavilref13_Parent.f k x254000 x108).bind fun t280 => (if (rd x106 x108) = t280 then (cavillaw13_TreeLooks.l0 k x1 x11 x12 x106 x107 (wrap64 (x108 + 1)) x254000) else (some false))) else (none)) else (none)) else (if x1 < 0 then (cavillaw13_TreeLooks.j2 k x1 x11 x12 true x254000) else (cavillaw13_TreeLooks.j2 k x1 x11 x12 (decide (x1 ≥ (x254000.length : Int))) x254000))
def cavillaw13_TreeLooks.j2 : Nat → Int → List Int → Option Er → Bool → List (S33) → Option (Bool)
  | 0, _, _, _, _, _ => none
  | k + 1, x1, x11, x12, x127, x254000 => if x127 = true then ((cavillaw01_Code.f k x12).bind fun t281 => (if t281 = 4 then (if (x11.length : Int) = 0 then ((cavillaw13_works.f k).bind fun t282 => (some t282)) else (some false)) else (some false))) else ((cavilref13_Own.f k x254000 x1).bind fun t283 => (if x12.isNone = true then (cavillaw13_TreeLooks.j3 k x11 t283 ((x11.length : Int) != (t283.length : Int))) else (cavillaw13_TreeLooks.j3 k x11 t283 true)))
def cavillaw13_TreeLooks.j3 : Nat → List Int → List Int → Bool → Option (Bool)
  | 0, _, _, _ => none
  | k + 1, x11, x15, x150 => if x150 = true then (some false) else (cavillaw13_TreeLooks.l1 k x11 x15 (x11.length : Int) 0)
def cavillaw13_TreeLooks.l1 : Nat → List Int → List Int → Int → Int → Option (Bool)
  | 0, _, _, _, _ => none
  | k + 1, x11, x15, x152, x153 => if x153 < x152 then (if 0 ≤ x153 then (if x153 < (x11.length : Int) then (if x153 < (x15.length : Int) then (if (rd x11 x153) = (rd x15 x153) then (cavillaw13_TreeLooks.l1 k x11 x15 x152 (wrap64 (x153 + 1))) else (some false)) else (none)) else (none)) else (none)) else ((cavillaw13_works.f k).bind fun t289 => (some t289))
end
def cavillaw13_TreeLooks.f (k : Nat) (l0_0 : List (S33)) (a1 : Int) : Option (Bool) := (cavillaw13_Few.f k l0_0).bind fun t254 => ((cavilref13_Sound.f k t254).bind fun bt257 => ((cavillaw13_far.f t254).bind fun t259 => (if t259 = true then ((cavillaw13_works.f k).bind fun t260 => (some t260)) else ((tree_Depth.f k t254).bind fun bt261 => ((tree_Parents.f k t254).bind fun bt263 => ((tree_Own.f k t254 a1).bind fun bt267 => (if bt257.1 = 0 then (if bt261.2.isNone = true then (if bt263.2.isNone = true then ((cavilref13_Deep.f k t254 (wrap64 ((t254.length : Int) - 1))).bind fun t278 => (if bt261.1 = t278 then (cavillaw13_TreeLooks.j0 k a1 bt263.1 bt267.1 bt267.2 ((bt263.1.length : Int) != (t254.length : Int)) t254) else (cavillaw13_TreeLooks.j0 k a1 bt263.1 bt267.1 bt267.2 true t254))) else (cavillaw13_TreeLooks.j0 k a1 bt263.1 bt267.1 bt267.2 true t254)) else (cavillaw13_TreeLooks.j0 k a1 bt263.1 bt267.1 bt267.2 true t254)) else ((cavillaw01_Code.f k bt261.2).bind fun t271 => (if t271 = bt257.1 then ((cavillaw01_Off.f bt261.2).bind fun t272 => (if t272 = bt257.2 then ((cavillaw01_Code.f k bt263.2).bind fun t273 => (if t273 = bt257.1 then ((cavillaw01_Code.f k bt267.2).bind fun t274 => (if t274 = bt257.1 then (if bt261.1 = 0 then (if (wrap64 ((bt263.1.length : Int) + (bt267.1.length : Int))) = 0 then ((cavillaw13_works.f k).bind fun t275 => (some t275)) else (some false)) else (some false)) else (some false))) else (some false))) else (some false))) else (some false))))))))))
theorem cavillaw13_TreeLooks.mono_l : ∀ k, (∀ y0 y1 y2 y3 y4 y5, LeO (cavillaw13_TreeLooks.j0 k y0 y1 y2 y3 y4 y5) (cavillaw13_TreeLooks.j0 (k + 1) y0 y1 y2 y3 y4 y5)) ∧ (∀ y0 y1 y2 y3 y4 y5 y6, LeO (cavillaw13_TreeLooks.l0 k y0 y1 y2 y3 y4 y5 y6) (cavillaw13_TreeLooks.l0 (k + 1) y0 y1 y2 y3 y4 y5 y6)) ∧ (∀ y0 y1 y2 y3 y4, LeO (cavillaw13_TreeLooks.j2 k y0 y1 y2 y3 y4) (cavillaw13_TreeLooks.j2 (k + 1) y0 y1 y2 y3 y4)) ∧ (∀ y0 y1 y2, LeO (cavillaw13_TreeLooks.j3 k y0 y1 y2) (cavillaw13_TreeLooks.j3 (k + 1) y0 y1 y2)) ∧ (∀ y0 y1 y2 y3, LeO (cavillaw13_TreeLooks.l1 k y0 y1 y2 y3) (cavillaw13_TreeLooks.l1 (k + 1) y0 y1 y2 y3))
  | 0 => ⟨fun _ _ _ _ _ _ r h => by simp [cavillaw13_TreeLooks.j0] at h, fun _ _ _ _ _ _ _ r h => by simp [cavillaw13_TreeLooks.l0] at h, fun _ _ _ _ _ r h => by simp [cavillaw13_TreeLooks.j2] at h, fun _ _ _ r h => by simp [cavillaw13_TreeLooks.j3] at h, fun _ _ _ _ r h => by simp [cavillaw13_TreeLooks.l1] at h⟩
  | k + 1 => by
    obtain ⟨ih0, ih1, ih2, ih3, ih4⟩ := cavillaw13_TreeLooks.mono_l k
    refine ⟨?_, ?_, ?_, ?_, ?_⟩
    · intro y0 y1 y2 y3 y4 y5
      unfold cavillaw13_TreeLooks.j0
      repeat' first
      | (with_reducible exact ih0 _ _ _ _ _ _)
      | (with_reducible exact ih1 _ _ _ _ _ _ _)
      | (with_reducible exact ih2 _ _ _ _ _)
      | (with_reducible exact ih3 _ _ _)
      | (with_reducible exact ih4 _ _ _ _)
      | (with_reducible exact cavillaw01_Code.mono _ _)
      | (with_reducible exact cavillaw13_Few.mono _ _)
      | (with_reducible exact cavillaw13_works.mono _)
      | (with_reducible exact cavilref13_Deep.mono _ _ _)
      | (with_reducible exact cavilref13_Own.mono _ _ _)
      | (with_reducible exact cavilref13_Parent.mono _ _ _)
      | (with_reducible exact cavilref13_Sound.mono _ _)
      | (with_reducible exact tree_Depth.mono _ _)
      | (with_reducible exact tree_Own.mono _ _ _)
      | (with_reducible exact tree_Parents.mono _ _)
      | (with_reducible exact LeO.refl _)
      | (with_reducible exact LeO.none _)
      | (with_reducible refine LeO.ite ?_ ?_)
      | (with_reducible refine LeO.bind ?_ (fun _ => ?_))
      | exact ih0 _ _ _ _ _ _
      | exact ih1 _ _ _ _ _ _ _
      | exact ih2 _ _ _ _ _
      | exact ih3 _ _ _
      | exact ih4 _ _ _ _
      | exact cavillaw01_Code.mono _ _
      | exact cavillaw13_Few.mono _ _
      | exact cavillaw13_works.mono _
      | exact cavilref13_Deep.mono _ _ _
      | exact cavilref13_Own.mono _ _ _
      | exact cavilref13_Parent.mono _ _ _
      | exact cavilref13_Sound.mono _ _
      | exact tree_Depth.mono _ _
      | exact tree_Own.mono _ _ _
      | exact tree_Parents.mono _ _
      | exact LeO.none _
      | refine LeO.ite ?_ ?_
      | refine LeO.bind ?_ (fun _ => ?_)
    · intro y0 y1 y2 y3 y4 y5 y6
      unfold cavillaw13_TreeLooks.l0
      repeat' first
      | (with_reducible exact ih0 _ _ _ _ _ _)
      | (with_reducible exact ih1 _ _ _ _ _ _ _)
      | (with_reducible exact ih2 _ _ _ _ _)
      | (with_reducible exact ih3 _ _ _)
      | (with_reducible exact ih4 _ _ _ _)
      | (with_reducible exact cavillaw01_Code.mono _ _)
      | (with_reducible exact cavillaw13_Few.mono _ _)
      | (with_reducible exact cavillaw13_works.mono _)
      | (with_reducible exact cavilref13_Deep.mono _ _ _)
      | (with_reducible exact cavilref13_Own.mono _ _ _)
      | (with_reducible exact cavilref13_Parent.mono _ _ _)
      | (with_reducible exact cavilref13_Sound.mono _ _)
      | (with_reducible exact tree_Depth.mono _ _)
      | (with_reducible exact tree_Own.mono _ _ _)
      | (with_reducible exact tree_Parents.mono _ _)
      | (with_reducible exact LeO.refl _)
      | (with_reducible exact LeO.none _)
      | (with_reducible refine LeO.ite ?_ ?_)
      | (with_reducible refine LeO.bind ?_ (fun _ => ?_))
      | exact ih0 _ _ _ _ _ _
      | exact ih1 _ _ _ _ _ _ _
      | exact ih2 _ _ _ _ _
      | exact ih3 _ _ _
      | exact ih4 _ _ _ _
      | exact cavillaw01_Code.mono _ _
      | exact cavillaw13_Few.mono _ _
      | exact cavillaw13_works.mono _
      | exact cavilref13_Deep.mono _ _ _
      | exact cavilref13_Own.mono _ _ _
      | exact cavilref13_Parent.mono _ _ _
      | exact cavilref13_Sound.mono _ _
      | exact tree_Depth.mono _ _
      | exact tree_Own.mono _ _ _
      | exact tree_Parents.mono _ _
      | exact LeO.none _
      | refine LeO.ite ?_ ?_
      | refine LeO.bind ?_ (fun _ => ?_)
    · intro y0 y1 y2 y3 y4
      unfold cavillaw13_TreeLooks.j2
      repeat' first
      | (with_reducible exact ih0 _ _ _ _ _ _)
      | (with_reducible exact ih1 _ _ _ _ _ _ _)
      | (with_reducible exact ih2 _ _ _ _ _)
      | (with_reducible exact ih3 _ _ _)
      | (with_reducible exact ih4 _ _ _ _)
      | (with_reducible exact cavillaw01_Code.mono _ _)
      | (with_reducible exact cavillaw13_Few.mono _ _)
      | (with_reducible exact cavillaw13_works.mono _)
      | (with_reducible exact cavilref13_Deep.mono _ _ _)
      | (with_reducible exact cavilref13_Own.mono _ _ _)
      | (with_reducible exact cavilref13_Parent.mono _ _ _)
      | (with_reducible exact cavilref13_Sound.mono _ _)
      | (with_reducible exact tree_Depth.mono _ _)
      | (with_reducible exact tree_Own.mono _ _ _)
      | (with_reducible exact tree_Parents.mono _ _)
      | (with_reducible exact LeO.refl _)
      | (with_reducible exact LeO.none _)
      | (with_reducible refine LeO.ite ?_ ?_)
      | (with_reducible refine LeO.bind ?_ (fun _ => ?_))
      | exact ih0 _ _ _ _ _ _
      | exact ih1 _ _ _ _ _ _ _
      | exact ih2 _ _ _ _ _
      | exact ih3 _ _ _
      | exact ih4 _ _ _ _
      | exact cavillaw01_Code.mono _ _
      | exact cavillaw13_Few.mono _ _
      | exact cavillaw13_works.mono _
      | exact cavilref13_Deep.mono _ _ _
      | exact cavilref13_Own.mono _ _ _
      | exact cavilref13_Parent.mono _ _ _
      | exact cavilref13_Sound.mono _ _
      | exact tree_Depth.mono _ _
      | exact tree_Own.mono _ _ _
      | exact tree_Parents.mono _ _
      | exact LeO.none _
      | refine LeO.ite ?_ ?_
      | refine LeO.bind ?_ (fun _ => ?_)
    · intro y0 y1 y2
      unfold cavillaw13_TreeLooks.j3
      repeat' first
      | (with_reducible exact ih0 _ _ _ _ _ _)
      | (with_reducible exact ih1 _ _ _ _ _ _ _)
      | (with_reducible exact ih2 _ _ _ _ _)
      | (with_reducible exact ih3 _ _ _)
      | (with_reducible exact ih4 _ _ _ _)
      | (with_reducible exact cavillaw01_Code.mono _ _)
      | (with_reducible exact cavillaw13_Few.mono _ _)
      | (with_reducible exact cavillaw13_works.mono _)
      | (with_reducible exact cavilref13_Deep.mono _ _ _)
      | (with_reducible exact cavilref13_Own.mono _ _ _)
      | (with_reducible exact cavilref13_Parent.mono _ _ _)
      | (with_reducible exact cavilref13_Sound.mono _ _)
      | (with_reducible exact tree_Depth.mono _ _)
      | (with_reducible exact tree_Own.mono _ _ _)
      | (with_reducible exact tree_Parents.mono _ _)
      | (with_reducible exact LeO.refl _)
      | (with_reducible exact LeO.none _)
      | (with_reducible refine LeO.ite ?_ ?_)
      | (with_reducible refine LeO.bind ?_ (fun _ => ?_))
      | exact ih0 _ _ _ _ _ _
      | exact ih1 _ _ _ _ _ _ _
      | exact ih2 _ _ _ _ _
      | exact ih3 _ _ _
      | exact ih4 _ _ _ _
      | exact cavillaw01_Code.mono _ _
      | exact cavillaw13_Few.mono _ _
      | exact cavillaw13_works.mono _
      | exact cavilref13_Deep.mono _ _ _
      | exact cavilref13_Own.mono _ _ _
      | exact cavilref13_Parent.mono _ _ _
      | exact cavilref13_Sound.mono _ _
      | exact tree_Depth.mono _ _
      | exact tree_Own.mono _ _ _
      | exact tree_Parents.mono _ _
      | exact LeO.none _
      | refine LeO.ite ?_ ?_
      | refine LeO.bind ?_ (fun _ => ?_)
    · intro y0 y1 y2 y3
      unfold cavillaw13_TreeLooks.l1
      repeat' first
      | (with_reducible exact ih0 _ _ _ _ _ _)
      | (with_reducible exact ih1 _ _ _ _ _ _ _)
      | (with_reducible exact ih2 _ _ _ _ _)
      | (with_reducible exact ih3 _ _ _)
      | (with_reducible exact ih4 _ _ _ _)
      | (with_reducible exact cavillaw01_Code.mono _ _)
      | (with_reducible exact cavillaw13_Few.mono _ _)
      | (with_reducible exact cavillaw13_works.mono _)
      | (with_reducible exact cavilref13_Deep.mono _ _ _)
      | (with_reducible exact cavilref13_Own.mono _ _ _)
      | (with_reducible exact cavilref13_Parent.mono _ _ _)
      | (with_reducible exact cavilref13_Sound.mono _ _)
      | (with_reducible exact tree_Depth.mono _ _)
      | (with_reducible exact tree_Own.mono _ _ _)
      | (with_reducible exact tree_Parents.mono _ _)
      | (with_reducible exact LeO.refl _)
      | (with_reducible exact LeO.none _)
      | (with_reducible refine LeO.ite ?_ ?_)
      | (with_reducible refine LeO.bind ?_ (fun _ => ?_))
      | exact ih0 _ _ _ _ _ _
      | exact ih1 _ _ _ _ _ _ _
      | exact ih2 _ _ _ _ _
      | exact ih3 _ _ _
      | exact ih4 _ _ _ _
      | exact cavillaw01_Code.mono _ _
      | exact cavillaw13_Few.mono _ _
      | exact cavillaw13_works.mono _
      | exact cavilref13_Deep.mono _ _ _
      | exact cavilref13_Own.mono _ _ _
      | exact cavilref13_Parent.mono _ _ _
      | exact cavilref13_Sound.mono _ _
      | exact tree_Depth.mono _ _
      | exact tree_Own.mono _ _ _
      | exact tree_Parents.mono _ _
      | exact LeO.none _
      | refine LeO.ite ?_ ?_
      | refine LeO.bind ?_ (fun _ => ?_)
theorem cavillaw13_TreeLooks.mono : ∀ a0 a1 k, LeO (cavillaw13_TreeLooks.f k a0 a1) (cavillaw13_TreeLooks.f (k + 1) a0 a1) := by
  intro a0 a1 k
  obtain ⟨ih0, ih1, ih2, ih3, ih4⟩ := cavillaw13_TreeLooks.mono_l k
  unfold cavillaw13_TreeLooks.f
  repeat' first
      | (with_reducible exact ih0 _ _ _ _ _ _)
      | (with_reducible exact ih1 _ _ _ _ _ _ _)
      | (with_reducible exact ih2 _ _ _ _ _)
      | (with_reducible exact ih3 _ _ _)
      | (with_reducible exact ih4 _ _ _ _)
      | (with_reducible exact cavillaw01_Code.mono _ _)
      | (with_reducible exact cavillaw13_Few.mono _ _)
      | (with_reducible exact cavillaw13_works.mono _)
      | (with_reducible exact cavilref13_Deep.mono _ _ _)
      | (with_reducible exact cavilref13_Own.mono _ _ _)
      | (with_reducible exact cavilref13_Parent.mono _ _ _)
      | (with_reducible exact cavilref13_Sound.mono _ _)
      | (with_reducible exact tree_Depth.mono _ _)
      | (with_reducible exact tree_Own.mono _ _ _)
      | (with_reducible exact tree_Parents.mono _ _)
      | (with_reducible exact LeO.refl _)
      | (with_reducible exact LeO.none _)
      | (with_reducible refine LeO.ite ?_ ?_)
      | (with_reducible refine LeO.bind ?_ (fun _ => ?_))
      | exact ih0 _ _ _ _ _ _
      | exact ih1 _ _ _ _ _ _ _
      | exact ih2 _ _ _ _ _
      | exact ih3 _ _ _
      | exact ih4 _ _ _ _
      | exact cavillaw01_Code.mono _ _
      | exact cavillaw13_Few.mono _ _
      | exact cavillaw13_works.mono _
      | exact cavilref13_Deep.mono _ _ _
      | exact cavilref13_Own.mono _ _ _
      | exact cavilref13_Parent.mono _ _ _
      | exact cavilref13_Sound.mono _ _
      | exact tree_Depth.mono _ _
      | exact tree_Own.mono _ _ _
      | exact tree_Parents.mono _ _
      | exact LeO.none _
      | refine LeO.ite ?_ ?_
      | refine LeO.bind ?_ (fun _ => ?_)
set_option maxHeartbeats 8000000 in
set_option maxRecDepth 100000 in
theorem cavillaw13_TreeLooks.calls (k : Nat) (A0_0 : Option Addr) (c0_0 : Nat) (l0_0 : List (S33)) (a1 : Int) (r : Bool) (w : World) (hG : GL_ w) (hr0_0 : Kd.C k33 w A0_0 l0_0.length l0_0) (hc0_0 : l0_0.length ≤ c0_0) (h : cavillaw13_TreeLooks.f k l0_0 a1 = some r) :
    Calls Tryd.prog 4 #[.agg #[.slice A0_0 l0_0.length c0_0], .int .i64 a1] w fun e w' => e = .returned (.bool r) ∧ Below w.heap.size w w' := by
  have hu24 := Tryd.underlying24
  have hu27 := Tryd.underlying27
  have hu82 := Tryd.underlying82
  have HR0_0 := Aside0.mk hr0_0
  have HC0_0 := Aside0.mk hc0_0
  clear hr0_0 hc0_0
  have HB := Aside0.mk (Below.refl w.heap.size w)
  have HG := Aside0.mk hG
  clear hG
  have H : ((cavillaw13_Few.f k l0_0).bind fun t254 => ((cavilref13_Sound.f k t254).bind fun bt257 => ((cavillaw13_far.f t254).bind fun t259 => (if t259 = true then ((cavillaw13_works.f k).bind fun t260 => (some t260)) else ((tree_Depth.f k t254).bind fun bt261 => ((tree_Parents.f k t254).bind fun bt263 => ((tree_Own.f k t254 a1).bind fun bt267 => (if bt257.1 = 0 then (if bt261.2.isNone = true then (if bt263.2.isNone = true then ((cavilref13_Deep.f k t254 (wrap64 ((t254.length : Int) - 1))).bind fun t278 => (if bt261.1 = t278 then (cavillaw13_TreeLooks.j0 k a1 bt263.1 bt267.1 bt267.2 ((bt263.1.length : Int) != (t254.length : Int)) t254) else (cavillaw13_TreeLooks.j0 k a1 bt263.1 bt267.1 bt267.2 true t254))) else (cavillaw13_TreeLooks.j0 k a1 bt263.1 bt267.1 bt267.2 true t254)) else (cavillaw13_TreeLooks.j0 k a1 bt263.1 bt267.1 bt267.2 true t254)) else ((cavillaw01_Code.f k bt261.2).bind fun t271 => (if t271 = bt257.1 then ((cavillaw01_Off.f bt261.2).bind fun t272 => (if t272 = bt257.2 then ((cavillaw01_Code.f k bt263.2).bind fun t273 => (if t273 = bt257.1 then ((cavillaw01_Code.f k bt267.2).bind fun t274 => (if t274 = bt257.1 then (if bt261.1 = 0 then (if (wrap64 ((bt263.1.length : Int) + (bt267.1.length : Int))) = 0 then ((cavillaw13_works.f k).bind fun t275 => (some t275)) else (some false)) else (some false)) else (some false))) else (some false))) else (some false))) else (some false))))))))))) = some r := h
  clear h
  replace H := Option.bind_eq_some_iff.mp H
  obtain ⟨t254, A30, H⟩ := H
  replace H : ((cavilref13_Sound.f k t254).bind fun bt257 => ((cavillaw13_far.f t254).bind fun t259 => (if t259 = true then ((cavillaw13_works.f k).bind fun t260 => (some t260)) else ((tree_Depth.f k t254).bind fun bt261 => ((tree_Parents.f k t254).bind fun bt263 => ((tree_Own.f k t254 a1).bind fun bt267 => (if bt257.1 = 0 then (if bt261.2.isNone = true then (if bt263.2.isNone = true then ((cavilref13_Deep.f k t254 (wrap64 ((t254.length : Int) - 1))).bind fun t278 => (if bt261.1 = t278 then (cavillaw13_TreeLooks.j0 k a1 bt263.1 bt267.1 bt267.2 ((bt263.1.length : Int) != (t254.length : Int)) t254) else (cavillaw13_TreeLooks.j0 k a1 bt263.1 bt267.1 bt267.2 true t254))) else (cavillaw13_TreeLooks.j0 k a1 bt263.1 bt267.1 bt267.2 true t254)) else (cavillaw13_TreeLooks.j0 k a1 bt263.1 bt267.1 bt267.2 true t254)) else ((cavillaw01_Code.f k bt261.2).bind fun t271 => (if t271 = bt257.1 then ((cavillaw01_Off.f bt261.2).bind fun t272 => (if t272 = bt257.2 then ((cavillaw01_Code.f k bt263.2).bind fun t273 => (if t273 = bt257.1 then ((cavillaw01_Code.f k bt267.2).bind fun t274 => (if t274 = bt257.1 then (if bt261.1 = 0 then (if (wrap64 ((bt263.1.length : Int) + (bt267.1.length : Int))) = 0 then ((cavillaw13_works.f k).bind fun t275 => (some t275)) else (some false)) else (some false)) else (some false))) else (some false))) else (some false))) else (some false)))))))))) = some r := H
  have A3 := Aside0.mk A30
  clear A30
  replace H := Option.bind_eq_some_iff.mp H
  obtain ⟨⟨t257, t258⟩, A40, H⟩ := H
  replace H : ((cavillaw13_far.f t254).bind fun t259 => (if t259 = true then ((cavillaw13_works.f k).bind fun t260 => (some t260)) else ((tree_Depth.f k t254).bind fun bt261 => ((tree_Parents.f k t254).bind fun bt263 => ((tree_Own.f k t254 a1).bind fun bt267 => (if t257 = 0 then (if bt261.2.isNone = true then (if bt263.2.isNone = true then ((cavilref13_Deep.f k t254 (wrap64 ((t254.length : Int) - 1))).bind fun t278 => (if bt261.1 = t278 then (cavillaw13_TreeLooks.j0 k a1 bt263.1 bt267.1 bt267.2 ((bt263.1.length : Int) != (t254.length : Int)) t254) else (cavillaw13_TreeLooks.j0 k a1 bt263.1 bt267.1 bt267.2 true t254))) else (cavillaw13_TreeLooks.j0 k a1 bt263.1 bt267.1 bt267.2 true t254)) else (cavillaw13_TreeLooks.j0 k a1 bt263.1 bt267.1 bt267.2 true t254)) else ((cavillaw01_Code.f k bt261.2).bind fun t271 => (if t271 = t257 then ((cavillaw01_Off.f bt261.2).bind fun t272 => (if t272 = t258 then ((cavillaw01_Code.f k bt263.2).bind fun t273 => (if t273 = t257 then ((cavillaw01_Code.f k bt267.2).bind fun t274 => (if t274 = t257 then (if bt261.1 = 0 then (if (wrap64 ((bt263.1.length : Int) + (bt267.1.length : Int))) = 0 then ((cavillaw13_works.f k).bind fun t275 => (some t275)) else (some false)) else (some false)) else (some false))) else (some false))) else (some false))) else (some false))))))))) = some r := H
  have A4 := Aside0.mk A40
  clear A40
  replace H := Option.bind_eq_some_iff.mp H
  obtain ⟨t259, A50, H⟩ := H
  replace H : (if t259 = true then ((cavillaw13_works.f k).bind fun t260 => (some t260)) else ((tree_Depth.f k t254).bind fun bt261 => ((tree_Parents.f k t254).bind fun bt263 => ((tree_Own.f k t254 a1).bind fun bt267 => (if t257 = 0 then (if bt261.2.isNone = true then (if bt263.2.isNone = true then ((cavilref13_Deep.f k t254 (wrap64 ((t254.length : Int) - 1))).bind fun t278 => (if bt261.1 = t278 then (cavillaw13_TreeLooks.j0 k a1 bt263.1 bt267.1 bt267.2 ((bt263.1.length : Int) != (t254.length : Int)) t254) else (cavillaw13_TreeLooks.j0 k a1 bt263.1 bt267.1 bt267.2 true t254))) else (cavillaw13_TreeLooks.j0 k a1 bt263.1 bt267.1 bt267.2 true t254)) else (cavillaw13_TreeLooks.j0 k a1 bt263.1 bt267.1 bt267.2 true t254)) else ((cavillaw01_Code.f k bt261.2).bind fun t271 => (if t271 = t257 then ((cavillaw01_Off.f bt261.2).bind fun t272 => (if t272 = t258 then ((cavillaw01_Code.f k bt263.2).bind fun t273 => (if t273 = t257 then ((cavillaw01_Code.f k bt267.2).bind fun t274 => (if t274 = t257 then (if bt261.1 = 0 then (if (wrap64 ((bt263.1.length : Int) + (bt267.1.length : Int))) = 0 then ((cavillaw13_works.f k).bind fun t275 => (some t275)) else (some false)) else (some false)) else (some false))) else (some false))) else (some false))) else (some false)))))))) = some r := H
  have A5 := Aside0.mk A50
  clear A50
  by_cases c6 : t259 = true
  · subst c6
    have H1 : ((cavillaw13_works.f k).bind fun t260 => (some t260)) = some r := by rw [if_pos rfl] at H; exact H
    clear H
    have H := H1
    clear H1
    replace H := Option.bind_eq_some_iff.mp H
    obtain ⟨t260, A70, H⟩ := H
    replace H : (some t260) = some r := H
    have A7 := Aside0.mk A70
    clear A70
    obtain rfl := Option.some.inj H
    go_enter Tryd.func4, Tryd.ntmps4
    go_wp2_with (first | ((with_reducible refine gate_dst (N := 2) rfl ?_); (try (refine gate_guard (by rfl) ?_; dsimp only)); refine box_event ?hg (N := 2) ?hd (cs := #[.slice A0_0 l0_0.length c0_0]) (t := 24) ?hr ?_; (case hd => rfl); (case hg => rfl); (case hr => first | (go_simp; done) | (go_simp; rfl)); intro gb253 hg w8 hbox hb; have n0_ := Aside0.mk (below_step (by repeat (first | (with_reducible first | exact HB.out | apply below_alloc | apply pw_below_drewN | apply below_drew1) | exact HB.out)) hb); have n1_ := Aside0.mk (hbox); have n2_ := Aside0.mk ((by rw [hg]; exact (below_size (by repeat (first | (with_reducible first | exact HB.out | apply below_alloc | apply pw_below_drewN | apply below_drew1) | exact HB.out))) : w.heap.size ≤ gb253)); have n3_ := Aside0.mk ((by rw [hg]; exact (below_size (by repeat (first | (with_reducible first | exact HB.out | apply below_alloc | apply pw_below_drewN | apply below_drew1) | exact HB.out))) : w.heap.size ≤ gb253)); clear HB; have HB := n0_; have BK253 := n1_; have GW253 := n2_; have GE253 := n3_; clear n0_ n1_ n2_ n3_; clear hb hbox hg; have hcz9_0 : w8.cell? ⟨gb253, 0, none⟩ = some (.slice A0_0 l0_0.length c0_0) := (blk_cell BK253.out 0).trans rfl; have hfz9_0 := blk_frozen BK253.out 0) | (go_at_call 10; (with_reducible refine (cavillaw13_Few.calls k (fun k_ => k_ < w.heap.size) _ _ l0_0 t254 _ ?side1 A3.out).mono ?_); (case side1 => exact Kd.V_mk HC0_0.out (Kd.F_below (Kd.C_F k33_heap HR0_0.out) (by repeat (first | (with_reducible first | exact HB.out | apply below_alloc | apply pw_below_drewN | apply below_drew1 | refine below_set ?_ GE253.out) | exact HB.out)))); rintro e w10 ⟨v255, rfl, ho0, hb⟩; have n0_ := Aside0.mk (Kd.N_lower (Kd.N_mono (ok' := fun k_ => k_ ≠ gb253) ho0 (fun k_ hk_ => Or.elim hk_ (fun hs_ => fun e_ => Nat.not_le.2 hs_ (by rw [e_]; exact GW253.out)) (fun hn_ => (Kd.freshB (g := gb253) (o := .cells #[.slice A0_0 l0_0.length c0_0] 24 (0, 0)) (by (with_reducible repeat (first | refine blk_drewN ?_ _ | refine blk_drew ?_ | refine blk_alloc ?_ _)); exact BK253.out) k_ hn_)))) (below_size (by repeat (first | (with_reducible first | exact HB.out | apply below_alloc | apply pw_below_drewN | apply below_drew1 | refine below_set ?_ GE253.out) | exact HB.out)))); have n1_ := Aside0.mk (blk_below (g := gb253) (o := .cells #[.slice A0_0 l0_0.length c0_0] 24 (0, 0)) (by (with_reducible repeat (first | refine blk_drewN ?_ _ | refine blk_drew ?_ | refine blk_alloc ?_ _)); exact BK253.out) hb); have n2_ := Aside0.mk (below_step (by repeat (first | (with_reducible first | exact HB.out | apply below_alloc | apply pw_below_drewN | apply below_drew1 | refine below_set ?_ GE253.out) | exact HB.out)) hb); clear BK253; clear HB; have HO256 := n0_; have BK253 := n1_; have HB := n2_; clear n0_ n1_ n2_; (try clear hb); (try clear hb2); (try clear hk); (try clear hi); (try clear ho0); obtain ⟨Ao11, co11, eo11⟩ := Kd.N_slice HO256.out; subst eo11; have hcz12_0 : w10.cell? ⟨gb253, 0, none⟩ = some (.slice A0_0 l0_0.length c0_0) := (blk_cell BK253.out 0).trans rfl; have hfz12_0 := blk_frozen BK253.out 0) | (go_at_call 17; (with_reducible refine (cavilref13_Sound.calls k _ _ t254 t257 t258 _ ?side1 ?side2 A4.out).mono ?_); (case side1 => refine (Kd.N_reads' (e := 33) (base := w.heap.size) (ok := fun k_ => k_ ≠ gb253) (n := t254.length) (c := co11) ?_).2.2; exact (by (with_reducible repeat (first | apply Kd.N_alloc | apply Kd.N_drewN | apply Kd.N_drew)); exact (Kd.N_mono (Kd.N_far (p := ⟨gb253, 0, none⟩) (Kd.N_mono HO256.out (fun k_ hk => (⟨hk, hk⟩ : _ ∧ k_ ≠ gb253))) (fun _ hk => hk.2) (.slice Ao11 t254.length co11)) (fun _ h_ => h_.1)))); (case side2 => exact (Kd.N_reads' HO256.out).2.1); rintro e w13 ⟨rfl, hb⟩; have n0_ := Aside0.mk (Kd.N_below (by (with_reducible repeat (first | apply Kd.N_alloc | apply Kd.N_drewN | apply Kd.N_drew)); exact (Kd.N_mono (Kd.N_far (p := ⟨gb253, 0, none⟩) (Kd.N_mono HO256.out (fun k_ hk => (⟨hk, hk⟩ : _ ∧ k_ ≠ gb253))) (fun _ hk => hk.2) (.slice Ao11 t254.length co11)) (fun _ h_ => h_.1))) hb); have n1_ := Aside0.mk (blk_below (g := gb253) (o := .cells #[.slice Ao11 t254.length co11] 24 (0, 0)) (by (with_reducible repeat (first | refine blk_drewN ?_ _ | refine blk_drew ?_ | refine blk_alloc ?_ _)); refine blk_put (cs := #[.slice A0_0 l0_0.length c0_0]) ?_ 0 _ rfl; (with_reducible repeat (first | refine blk_drewN ?_ _ | refine blk_drew ?_ | refine blk_alloc ?_ _)); exact BK253.out) hb); have n2_ := Aside0.mk (below_step (by repeat (first | (with_reducible first | exact HB.out | apply below_alloc | apply pw_below_drewN | apply below_drew1 | refine below_set ?_ GE253.out) | exact HB.out)) hb); clear HO256; clear BK253; clear HB; have HO256 := n0_; have BK253 := n1_; have HB := n2_; clear n0_ n1_ n2_; (try clear hb); (try clear hb2); (try clear hk); (try clear hi); have hcz14_0 : w13.cell? ⟨gb253, 0, none⟩ = some (.slice Ao11 t254.length co11) := (blk_cell BK253.out 0).trans rfl; have hfz14_0 := blk_frozen BK253.out 0) | (go_at_call 18; (with_reducible refine (cavillaw13_far.calls _ _ t254 true _ ?side1 ?side2 A5.out).mono ?_); (case side1 => repeat (first | exact (Kd.N_reads' HO256.out).2.2 | (with_reducible refine Kd.C_alloc ?_ _) | (with_reducible refine Kd.C_drewN ?_ _) | (with_reducible refine Kd.C_drew ?_))); (case side2 => exact (Kd.N_reads' HO256.out).2.1); rintro e w15 ⟨rfl, hb⟩; have n0_ := Aside0.mk (Kd.N_below (by (with_reducible repeat (first | apply Kd.N_alloc | apply Kd.N_drewN | apply Kd.N_drew)); exact HO256.out) hb); have n1_ := Aside0.mk (blk_below (g := gb253) (o := .cells #[.slice Ao11 t254.length co11] 24 (0, 0)) (by (with_reducible repeat (first | refine blk_drewN ?_ _ | refine blk_drew ?_ | refine blk_alloc ?_ _)); exact BK253.out) hb); have n2_ := Aside0.mk (below_step (by repeat (first | (with_reducible first | exact HB.out | apply below_alloc | apply pw_below_drewN | apply below_drew1 | refine below_set ?_ GE253.out) | exact HB.out)) hb); clear HO256; clear BK253; clear HB; have HO256 := n0_; have BK253 := n1_; have HB := n2_; clear n0_ n1_ n2_; (try clear hb); (try clear hb2); (try clear hk); (try clear hi)) | (go_at_call 16; (with_reducible refine (cavillaw13_works.calls k  t260 _ A7.out).mono ?_); rintro e w16 ⟨rfl, hb⟩; have n0_ := Aside0.mk (Kd.N_below (by (with_reducible repeat (first | apply Kd.N_alloc | apply Kd.N_drewN | apply Kd.N_drew)); exact HO256.out) hb); have n1_ := Aside0.mk (blk_below (g := gb253) (o := .cells #[.slice Ao11 t254.length co11] 24 (0, 0)) (by (with_reducible repeat (first | refine blk_drewN ?_ _ | refine blk_drew ?_ | refine blk_alloc ?_ _)); exact BK253.out) hb); have n2_ := Aside0.mk (below_step (by repeat (first | (with_reducible first | exact HB.out | apply below_alloc | apply pw_below_drewN | apply below_drew1 | refine below_set ?_ GE253.out) | exact HB.out)) hb); clear HO256; clear BK253; clear HB; have HO256 := n0_; have BK253 := n1_; have HB := n2_; clear n0_ n1_ n2_; (try clear hb); (try clear hb2); (try clear hk); (try clear hi)))
    go_ret
    exact ⟨by first | rfl | (simp [errW_none, errW_some, erT_no, erV_no, erT_at, erV_at] <;> rfl) | (simp [*, errW_none, errW_some, erT_no, erV_no, erT_at, erV_at] <;> rfl), by repeat (first | (with_reducible first | exact HB.out | apply below_alloc | apply pw_below_drewN | apply below_drew1 | refine below_set ?_ GE253.out) | exact HB.out)⟩
  · replace c6 := Bool.eq_false_iff.mpr c6
    subst c6
    have H1 : ((tree_Depth.f k t254).bind fun bt261 => ((tree_Parents.f k t254).bind fun bt263 => ((tree_Own.f k t254 a1).bind fun bt267 => (if t257 = 0 then (if bt261.2.isNone = true then (if bt263.2.isNone = true then ((cavilref13_Deep.f k t254 (wrap64 ((t254.length : Int) - 1))).bind fun t278 => (if bt261.1 = t278 then (cavillaw13_TreeLooks.j0 k a1 bt263.1 bt267.1 bt267.2 ((bt263.1.length : Int) != (t254.length : Int)) t254) else (cavillaw13_TreeLooks.j0 k a1 bt263.1 bt267.1 bt267.2 true t254))) else (cavillaw13_TreeLooks.j0 k a1 bt263.1 bt267.1 bt267.2 true t254)) else (cavillaw13_TreeLooks.j0 k a1 bt263.1 bt267.1 bt267.2 true t254)) else ((cavillaw01_Code.f k bt261.2).bind fun t271 => (if t271 = t257 then ((cavillaw01_Off.f bt261.2).bind fun t272 => (if t272 = t258 then ((cavillaw01_Code.f k bt263.2).bind fun t273 => (if t273 = t257 then ((cavillaw01_Code.f k bt267.2).bind fun t274 => (if t274 = t257 then (if bt261.1 = 0 then (if (wrap64 ((bt263.1.length : Int) + (bt267.1.length : Int))) = 0 then ((cavillaw13_works.f k).bind fun t275 => (some t275)) else (some false)) else (some false)) else (some false))) else (some false))) else (some false))) else (some false))))))) = some r := by rw [if_neg (show ¬ (false = true) by decide)] at H; exact H
    clear H
    have H := H1
    clear H1
    replace H := Option.bind_eq_some_iff.mp H
    obtain ⟨⟨t261, t262⟩, A170, H⟩ := H
    replace H : ((tree_Parents.f k t254).bind fun bt263 => ((tree_Own.f k t254 a1).bind fun bt267 => (if t257 = 0 then (if t262.isNone = true then (if bt263.2.isNone = true then ((cavilref13_Deep.f k t254 (wrap64 ((t254.length : Int) - 1))).bind fun t278 => (if t261 = t278 then (cavillaw13_TreeLooks.j0 k a1 bt263.1 bt267.1 bt267.2 ((bt263.1.length : Int) != (t254.length : Int)) t254) else (cavillaw13_TreeLooks.j0 k a1 bt263.1 bt267.1 bt267.2 true t254))) else (cavillaw13_TreeLooks.j0 k a1 bt263.1 bt267.1 bt267.2 true t254)) else (cavillaw13_TreeLooks.j0 k a1 bt263.1 bt267.1 bt267.2 true t254)) else ((cavillaw01_Code.f k t262).bind fun t271 => (if t271 = t257 then ((cavillaw01_Off.f t262).bind fun t272 => (if t272 = t258 then ((cavillaw01_Code.f k bt263.2).bind fun t273 => (if t273 = t257 then ((cavillaw01_Code.f k bt267.2).bind fun t274 => (if t274 = t257 then (if t261 = 0 then (if (wrap64 ((bt263.1.length : Int) + (bt267.1.length : Int))) = 0 then ((cavillaw13_works.f k).bind fun t275 => (some t275)) else (some false)) else (some false)) else (some false))) else (some false))) else (some false))) else (some false)))))) = some r := H
    have A17 := Aside0.mk A170
    clear A170
    replace H := Option.bind_eq_some_iff.mp H
    obtain ⟨⟨t263, t266⟩, A180, H⟩ := H
    replace H : ((tree_Own.f k t254 a1).bind fun bt267 => (if t257 = 0 then (if t262.isNone = true then (if t266.isNone = true then ((cavilref13_Deep.f k t254 (wrap64 ((t254.length : Int) - 1))).bind fun t278 => (if t261 = t278 then (cavillaw13_TreeLooks.j0 k a1 t263 bt267.1 bt267.2 ((t263.length : Int) != (t254.length : Int)) t254) else (cavillaw13_TreeLooks.j0 k a1 t263 bt267.1 bt267.2 true t254))) else (cavillaw13_TreeLooks.j0 k a1 t263 bt267.1 bt267.2 true t254)) else (cavillaw13_TreeLooks.j0 k a1 t263 bt267.1 bt267.2 true t254)) else ((cavillaw01_Code.f k t262).bind fun t271 => (if t271 = t257 then ((cavillaw01_Off.f t262).bind fun t272 => (if t272 = t258 then ((cavillaw01_Code.f k t266).bind fun t273 => (if t273 = t257 then ((cavillaw01_Code.f k bt267.2).bind fun t274 => (if t274 = t257 then (if t261 = 0 then (if (wrap64 ((t263.length : Int) + (bt267.1.length : Int))) = 0 then ((cavillaw13_works.f k).bind fun t275 => (some t275)) else (some false)) else (some false)) else (some false))) else (some false))) else (some false))) else (some false))))) = some r := H
    have A18 := Aside0.mk A180
    clear A180
    replace H := Option.bind_eq_some_iff.mp H
    obtain ⟨⟨t267, t270⟩, A190, H⟩ := H
    replace H : (if t257 = 0 then (if t262.isNone = true then (if t266.isNone = true then ((cavilref13_Deep.f k t254 (wrap64 ((t254.length : Int) - 1))).bind fun t278 => (if t261 = t278 then (cavillaw13_TreeLooks.j0 k a1 t263 t267 t270 ((t263.length : Int) != (t254.length : Int)) t254) else (cavillaw13_TreeLooks.j0 k a1 t263 t267 t270 true t254))) else (cavillaw13_TreeLooks.j0 k a1 t263 t267 t270 true t254)) else (cavillaw13_TreeLooks.j0 k a1 t263 t267 t270 true t254)) else ((cavillaw01_Code.f k t262).bind fun t271 => (if t271 = t257 then ((cavillaw01_Off.f t262).bind fun t272 => (if t272 = t258 then ((cavillaw01_Code.f k t266).bind fun t273 => (if t273 = t257 then ((cavillaw01_Code.f k t270).bind fun t274 => (if t274 = t257 then (if t261 = 0 then (if (wrap64 ((t263.length : Int) + (t267.length : Int))) = 0 then ((cavillaw13_works.f k).bind fun t275 => (some t275)) else (some false)) else (some false)) else (some false))) else (some false))) else (some false))) else (some false)))) = some r := H
    have A19 := Aside0.mk A190
    clear A190
    by_cases c20 : t257 = 0
    · rw [if_pos c20] at H
      have c20b0 : (t257 == 0) = true := beq_iff_eq.mpr c20
      have c20b1 : (t257 != 0) = false := bne_eq_false_iff_eq.mpr c20
      clear c20
      have HC21 := Aside0.mk H
      clear H
      go_enter Tryd.func4, Tryd.ntmps4
      go_upto_region 10 with (first | ((with_reducible refine gate_dst (N := 2) rfl ?_); (try (refine gate_guard (by rfl) ?_; dsimp only)); refine box_event ?hg (N := 2) ?hd (cs := #[.slice A0_0 l0_0.length c0_0]) (t := 24) ?hr ?_; (case hd => rfl); (case hg => rfl); (case hr => first | (go_simp; done) | (go_simp; rfl)); intro gb253 hg w22 hbox hb; have n0_ := Aside0.mk (below_step (by repeat (first | (with_reducible first | exact HB.out | apply below_alloc | apply pw_below_drewN | apply below_drew1) | exact HB.out)) hb); have n1_ := Aside0.mk (hbox); have n2_ := Aside0.mk ((by rw [hg]; exact (below_size (by repeat (first | (with_reducible first | exact HB.out | apply below_alloc | apply pw_below_drewN | apply below_drew1) | exact HB.out))) : w.heap.size ≤ gb253)); have n3_ := Aside0.mk ((by rw [hg]; exact (below_size (by repeat (first | (with_reducible first | exact HB.out | apply below_alloc | apply pw_below_drewN | apply below_drew1) | exact HB.out))) : w.heap.size ≤ gb253)); clear HB; have HB := n0_; have BK253 := n1_; have GW253 := n2_; have GE253 := n3_; clear n0_ n1_ n2_ n3_; clear hb hbox hg; have hcz23_0 : w22.cell? ⟨gb253, 0, none⟩ = some (.slice A0_0 l0_0.length c0_0) := (blk_cell BK253.out 0).trans rfl; have hfz23_0 := blk_frozen BK253.out 0) | (go_at_call 10; (with_reducible refine (cavillaw13_Few.calls k (fun k_ => k_ < w.heap.size) _ _ l0_0 t254 _ ?side1 A3.out).mono ?_); (case side1 => exact Kd.V_mk HC0_0.out (Kd.F_below (Kd.C_F k33_heap HR0_0.out) (by repeat (first | (with_reducible first | exact HB.out | apply below_alloc | apply pw_below_drewN | apply below_drew1 | refine below_set ?_ GE253.out) | exact HB.out)))); rintro e w24 ⟨v255, rfl, ho0, hb⟩; have n0_ := Aside0.mk (Kd.N_lower (Kd.N_mono (ok' := fun k_ => k_ ≠ gb253) ho0 (fun k_ hk_ => Or.elim hk_ (fun hs_ => fun e_ => Nat.not_le.2 hs_ (by rw [e_]; exact GW253.out)) (fun hn_ => (Kd.freshB (g := gb253) (o := .cells #[.slice A0_0 l0_0.length c0_0] 24 (0, 0)) (by (with_reducible repeat (first | refine blk_drewN ?_ _ | refine blk_drew ?_ | refine blk_alloc ?_ _)); exact BK253.out) k_ hn_)))) (below_size (by repeat (first | (with_reducible first | exact HB.out | apply below_alloc | apply pw_below_drewN | apply below_drew1 | refine below_set ?_ GE253.out) | exact HB.out)))); have n1_ := Aside0.mk (blk_below (g := gb253) (o := .cells #[.slice A0_0 l0_0.length c0_0] 24 (0, 0)) (by (with_reducible repeat (first | refine blk_drewN ?_ _ | refine blk_drew ?_ | refine blk_alloc ?_ _)); exact BK253.out) hb); have n2_ := Aside0.mk (below_step (by repeat (first | (with_reducible first | exact HB.out | apply below_alloc | apply pw_below_drewN | apply below_drew1 | refine below_set ?_ GE253.out) | exact HB.out)) hb); clear BK253; clear HB; have HO256 := n0_; have BK253 := n1_; have HB := n2_; clear n0_ n1_ n2_; (try clear hb); (try clear hb2); (try clear hk); (try clear hi); (try clear ho0); obtain ⟨Ao25, co25, eo25⟩ := Kd.N_slice HO256.out; subst eo25; have hcz26_0 : w24.cell? ⟨gb253, 0, none⟩ = some (.slice A0_0 l0_0.length c0_0) := (blk_cell BK253.out 0).trans rfl; have hfz26_0 := blk_frozen BK253.out 0) | (go_at_call 17; (with_reducible refine (cavilref13_Sound.calls k _ _ t254 t257 t258 _ ?side1 ?side2 A4.out).mono ?_); (case side1 => refine (Kd.N_reads' (e := 33) (base := w.heap.size) (ok := fun k_ => k_ ≠ gb253) (n := t254.length) (c := co25) ?_).2.2; exact (by (with_reducible repeat (first | apply Kd.N_alloc | apply Kd.N_drewN | apply Kd.N_drew)); exact (Kd.N_mono (Kd.N_far (p := ⟨gb253, 0, none⟩) (Kd.N_mono HO256.out (fun k_ hk => (⟨hk, hk⟩ : _ ∧ k_ ≠ gb253))) (fun _ hk => hk.2) (.slice Ao25 t254.length co25)) (fun _ h_ => h_.1)))); (case side2 => exact (Kd.N_reads' HO256.out).2.1); rintro e w27 ⟨rfl, hb⟩; have n0_ := Aside0.mk (Kd.N_below (by (with_reducible repeat (first | apply Kd.N_alloc | apply Kd.N_drewN | apply Kd.N_drew)); exact (Kd.N_mono (Kd.N_far (p := ⟨gb253, 0, none⟩) (Kd.N_mono HO256.out (fun k_ hk => (⟨hk, hk⟩ : _ ∧ k_ ≠ gb253))) (fun _ hk => hk.2) (.slice Ao25 t254.length co25)) (fun _ h_ => h_.1))) hb); have n1_ := Aside0.mk (blk_below (g := gb253) (o := .cells #[.slice Ao25 t254.length co25] 24 (0, 0)) (by (with_reducible repeat (first | refine blk_drewN ?_ _ | refine blk_drew ?_ | refine blk_alloc ?_ _)); refine blk_put (cs := #[.slice A0_0 l0_0.length c0_0]) ?_ 0 _ rfl; (with_reducible repeat (first | refine blk_drewN ?_ _ | refine blk_drew ?_ | refine blk_alloc ?_ _)); exact BK253.out) hb); have n2_ := Aside0.mk (below_step (by repeat (first | (with_reducible first | exact HB.out | apply below_alloc | apply pw_below_drewN | apply below_drew1 | refine below_set ?_ GE253.out) | exact HB.out)) hb); clear HO256; clear BK253; clear HB; have HO256 := n0_; have BK253 := n1_; have HB := n2_; clear n0_ n1_ n2_; (try clear hb); (try clear hb2); (try clear hk); (try clear hi); have hcz28_0 : w27.cell? ⟨gb253, 0, none⟩ = some (.slice Ao25 t254.length co25) := (blk_cell BK253.out 0).trans rfl; have hfz28_0 := blk_frozen BK253.out 0) | (go_at_call 18; (with_reducible refine (cavillaw13_far.calls _ _ t254 false _ ?side1 ?side2 A5.out).mono ?_); (case side1 => repeat (first | exact (Kd.N_reads' HO256.out).2.2 | (with_reducible refine Kd.C_alloc ?_ _) | (with_reducible refine Kd.C_drewN ?_ _) | (with_reducible refine Kd.C_drew ?_))); (case side2 => exact (Kd.N_reads' HO256.out).2.1); rintro e w29 ⟨rfl, hb⟩; have n0_ := Aside0.mk (Kd.N_below (by (with_reducible repeat (first | apply Kd.N_alloc | apply Kd.N_drewN | apply Kd.N_drew)); exact HO256.out) hb); have n1_ := Aside0.mk (blk_below (g := gb253) (o := .cells #[.slice Ao25 t254.length co25] 24 (0, 0)) (by (with_reducible repeat (first | refine blk_drewN ?_ _ | refine blk_drew ?_ | refine blk_alloc ?_ _)); exact BK253.out) hb); have n2_ := Aside0.mk (below_step (by repeat (first | (with_reducible first | exact HB.out | apply below_alloc | apply pw_below_drewN | apply below_drew1 | refine below_set ?_ GE253.out) | exact HB.out)) hb); clear HO256; clear BK253; clear HB; have HO256 := n0_; have BK253 := n1_; have HB := n2_; clear n0_ n1_ n2_; (try clear hb); (try clear hb2); (try clear hk); (try clear hi); have hcz30_0 : w29.cell? ⟨gb253, 0, none⟩ = some (.slice Ao25 t254.length co25) := (blk_cell BK253.out 0).trans rfl; have hfz30_0 := blk_frozen BK253.out 0) | (go_at_call 19; (with_reducible refine (tree_Depth.calls k _ _ t254 t261 t262 _ ?side1 ?side2 A17.out).mono ?_); (case side1 => repeat (first | exact (Kd.N_reads' HO256.out).2.2 | (with_reducible refine Kd.C_alloc ?_ _) | (with_reducible refine Kd.C_drewN ?_ _) | (with_reducible refine Kd.C_drew ?_))); (case side2 => exact (Kd.N_reads' HO256.out).2.1); rintro e w31 ⟨rfl, hb⟩; have n0_ := Aside0.mk (Kd.N_below (by (with_reducible repeat (first | apply Kd.N_alloc | apply Kd.N_drewN | apply Kd.N_drew)); exact HO256.out) hb); have n1_ := Aside0.mk (blk_below (g := gb253) (o := .cells #[.slice Ao25 t254.length co25] 24 (0, 0)) (by (with_reducible repeat (first | refine blk_drewN ?_ _ | refine blk_drew ?_ | refine blk_alloc ?_ _)); exact BK253.out) hb); have n2_ := Aside0.mk (below_step (by repeat (first | (with_reducible first | exact HB.out | apply below_alloc | apply pw_below_drewN | apply below_drew1 | refine below_set ?_ GE253.out) | exact HB.out)) hb); clear HO256; clear BK253; clear HB; have HO256 := n0_; have BK253 := n1_; have HB := n2_; clear n0_ n1_ n2_; (try clear hb); (try clear hb2); (try clear hk); (try clear hi); (try simp only [errW_none, errW_some, erT_no, erV_no, erT_at, erV_at]); have hcz32_0 : w31.cell? ⟨gb253, 0, none⟩ = some (.slice Ao25 t254.length co25) := (blk_cell BK253.out 0).trans rfl; have hfz32_0 := blk_frozen BK253.out 0) | (go_at_call 20; (with_reducible refine (tree_Parents.calls k _ _ t254 t263 t266 _ ?side1 ?side2 A18.out).mono ?_); (case side1 => repeat (first | exact (Kd.N_reads' HO256.out).2.2 | (with_reducible refine Kd.C_alloc ?_ _) | (with_reducible refine Kd.C_drewN ?_ _) | (with_reducible refine Kd.C_drew ?_))); (case side2 => exact (Kd.N_reads' HO256.out).2.1); rintro e w33 ⟨v264, rfl, ho0, hb⟩; have n0_ := Aside0.mk (Kd.N_elder' (by (with_reducible repeat (first | apply Kd.N_alloc | apply Kd.N_drewN | apply Kd.N_drew)); exact HO256.out) (Kd.R_base ho0) hb); have n1_ := Aside0.mk (Kd.R_lower ho0 (below_size (by repeat (first | (with_reducible first | exact HB.out | apply below_alloc | apply pw_below_drewN | apply below_drew1 | refine below_set ?_ GE253.out) | exact HB.out)))); have n2_ := Aside0.mk (blk_below (g := gb253) (o := .cells #[.slice Ao25 t254.length co25] 24 (0, 0)) (by (with_reducible repeat (first | refine blk_drewN ?_ _ | refine blk_drew ?_ | refine blk_alloc ?_ _)); exact BK253.out) hb); have n3_ := Aside0.mk (below_step (by repeat (first | (with_reducible first | exact HB.out | apply below_alloc | apply pw_below_drewN | apply below_drew1 | refine below_set ?_ GE253.out) | exact HB.out)) hb); clear HO256; clear BK253; clear HB; have HO256 := n0_; have HO265 := n1_; have BK253 := n2_; have HB := n3_; clear n0_ n1_ n2_ n3_; (try clear hb); (try clear hb2); (try clear hk); (try clear hi); (try clear ho0); (try simp only [errW_none, errW_some, erT_no, erV_no, erT_at, erV_at]); have hcz34_0 : w33.cell? ⟨gb253, 0, none⟩ = some (.slice Ao25 t254.length co25) := (blk_cell BK253.out 0).trans rfl; have hfz34_0 := blk_frozen BK253.out 0) | (go_at_call 21; (with_reducible refine (tree_Own.calls k _ _ t254 a1 t267 t270 _ ?side1 ?side2 A19.out).mono ?_); (case side1 => repeat (first | exact (Kd.N_reads' HO256.out).2.2 | (with_reducible refine Kd.C_alloc ?_ _) | (with_reducible refine Kd.C_drewN ?_ _) | (with_reducible refine Kd.C_drew ?_))); (case side2 => exact (Kd.N_reads' HO256.out).2.1); rintro e w35 ⟨v268, rfl, ho0, hb⟩; have n0_ := Aside0.mk (Kd.N_elder' (by (with_reducible repeat (first | apply Kd.N_alloc | apply Kd.N_drewN | apply Kd.N_drew)); exact HO256.out) (Kd.R_base ho0) hb); have n1_ := Aside0.mk (Kd.R_elder' (by (with_reducible repeat (first | apply Kd.R_alloc | apply Kd.R_drewN | apply Kd.R_drew)); exact HO265.out) (Kd.R_base ho0) hb); have n2_ := Aside0.mk (Kd.R_lower (Kd.R_new' ho0 (Kd.R_lt (by (with_reducible repeat (first | apply Kd.R_alloc | apply Kd.R_drewN | apply Kd.R_drew)); exact HO265.out))) (below_size (by repeat (first | (with_reducible first | exact HB.out | apply below_alloc | apply pw_below_drewN | apply below_drew1 | refine below_set ?_ GE253.out) | exact HB.out)))); have n3_ := Aside0.mk (blk_below (g := gb253) (o := .cells #[.slice Ao25 t254.length co25] 24 (0, 0)) (by (with_reducible repeat (first | refine blk_drewN ?_ _ | refine blk_drew ?_ | refine blk_alloc ?_ _)); exact BK253.out) hb); have n4_ := Aside0.mk (below_step (by repeat (first | (with_reducible first | exact HB.out | apply below_alloc | apply pw_below_drewN | apply below_drew1 | refine below_set ?_ GE253.out) | exact HB.out)) hb); clear HO256; clear HO265; clear BK253; clear HB; have HO256 := n0_; have HO265 := n1_; have HO269 := n2_; have BK253 := n3_; have HB := n4_; clear n0_ n1_ n2_ n3_ n4_; (try clear hb); (try clear hb2); (try clear hk); (try clear hi); (try clear ho0); (try simp only [errW_none, errW_some, erT_no, erV_no, erT_at, erV_at])))
      (try simp only [Act.put, List.setIfInBounds_toArray, List.set_cons_zero, List.set_cons_succ])
      go_cut [105] (fun v105 wc => ∃ (kq : Nat) (x105_20 : Bool), v105 = .bool x105_20 ∧ Aside0 (cavillaw13_TreeLooks.j0 kq a1 t263 t267 t270 x105_20 t254 = some r) ∧ Aside0 (kq ≤ k) ∧ Aside0 (Kd.R (Kd.int .i64) 3 wc w.heap.size (fun k_ => some k_ ≠ (v268 : Value).ownBlock) v264 t263) ∧ Aside0 (Kd.R (Kd.int .i64) 3 wc w.heap.size (fun k_ => some k_ ≠ (v264 : Value).ownBlock) v268 t267) ∧ Aside0 (Kd.N k33 33 wc w.heap.size (fun k_ => some k_ ≠ (v264 : Value).ownBlock ∧ some k_ ≠ (v268 : Value).ownBlock ∧ k_ ≠ gb253) (.slice Ao25 t254.length co25) t254) ∧ Aside0 (wc.heap[gb253]? = some (.cells #[(.slice Ao25 t254.length co25)] 24 (0, 0))) ∧ Aside0 (Below w.heap.size w wc))
      case first =>
        have H := HC21.out
        clear HC21
        rcases t262 with _ | q276
        · have H1 : (if t266.isNone = true then ((cavilref13_Deep.f k t254 (wrap64 ((t254.length : Int) - 1))).bind fun t278 => (if t261 = t278 then (cavillaw13_TreeLooks.j0 k a1 t263 t267 t270 ((t263.length : Int) != (t254.length : Int)) t254) else (cavillaw13_TreeLooks.j0 k a1 t263 t267 t270 true t254))) else (cavillaw13_TreeLooks.j0 k a1 t263 t267 t270 true t254)) = some r := by rw [if_pos (show (none : Option Er).isNone = true by rfl)] at H; exact H
          clear H
          have H := H1
          clear H1
          try simp only [errW_none, errW_some, erT_no, erV_no, erT_at, erV_at]
          rcases t266 with _ | q277
          · have H1 : ((cavilref13_Deep.f k t254 (wrap64 ((t254.length : Int) - 1))).bind fun t278 => (if t261 = t278 then (cavillaw13_TreeLooks.j0 k a1 t263 t267 t270 ((t263.length : Int) != (t254.length : Int)) t254) else (cavillaw13_TreeLooks.j0 k a1 t263 t267 t270 true t254))) = some r := by rw [if_pos (show (none : Option Er).isNone = true by rfl)] at H; exact H
            clear H
            have H := H1
            clear H1
            try simp only [errW_none, errW_some, erT_no, erV_no, erT_at, erV_at]
            replace H := Option.bind_eq_some_iff.mp H
            obtain ⟨t278, A360, H⟩ := H
            replace H : (if t261 = t278 then (cavillaw13_TreeLooks.j0 k a1 t263 t267 t270 ((t263.length : Int) != (t254.length : Int)) t254) else (cavillaw13_TreeLooks.j0 k a1 t263 t267 t270 true t254)) = some r := H
            have A36 := Aside0.mk A360
            clear A360
            by_cases c37 : t261 = t278
            · rw [if_pos c37] at H
              have c37b0 : (t261 == t278) = true := beq_iff_eq.mpr c37
              have c37b1 : (t261 != t278) = false := bne_eq_false_iff_eq.mpr c37
              clear c37
              (first | rw [c37b0] | (simp only [i64_w, i32_w]; rw [c37b0]) | skip)
              have H' := Aside0.mk H
              clear H
              have hcz38_0 : w35.cell? ⟨gb253, 0, none⟩ = some (.slice Ao25 t254.length co25) := (blk_cell BK253.out 0).trans rfl
              have hfz38_0 := blk_frozen BK253.out 0
              go_wp2_with (first | (go_at_call 22; (with_reducible refine (cavilref13_Deep.calls k _ _ t254 (wrap64 ((t254.length : Int) - 1)) t278 _ ?side1 ?side2 A36.out).mono ?_); (case side1 => repeat (first | exact (Kd.N_reads' HO256.out).2.2 | (with_reducible refine Kd.C_alloc ?_ _) | (with_reducible refine Kd.C_drewN ?_ _) | (with_reducible refine Kd.C_drew ?_))); (case side2 => exact (Kd.N_reads' HO256.out).2.1); rintro e w39 ⟨rfl, hb⟩; have n0_ := Aside0.mk (Kd.N_below (by (with_reducible repeat (first | apply Kd.N_alloc | apply Kd.N_drewN | apply Kd.N_drew)); exact HO256.out) hb); have n1_ := Aside0.mk (Kd.R_below (by (with_reducible repeat (first | apply Kd.R_alloc | apply Kd.R_drewN | apply Kd.R_drew)); exact HO265.out) hb); have n2_ := Aside0.mk (Kd.R_below (by (with_reducible repeat (first | apply Kd.R_alloc | apply Kd.R_drewN | apply Kd.R_drew)); exact HO269.out) hb); have n3_ := Aside0.mk (blk_below (g := gb253) (o := .cells #[.slice Ao25 t254.length co25] 24 (0, 0)) (by (with_reducible repeat (first | refine blk_drewN ?_ _ | refine blk_drew ?_ | refine blk_alloc ?_ _)); exact BK253.out) hb); have n4_ := Aside0.mk (below_step (by repeat (first | (with_reducible first | exact HB.out | apply below_alloc | apply pw_below_drewN | apply below_drew1 | refine below_set ?_ GE253.out) | exact HB.out)) hb); clear HO256; clear HO265; clear HO269; clear BK253; clear HB; have HO256 := n0_; have HO265 := n1_; have HO269 := n2_; have BK253 := n3_; have HB := n4_; clear n0_ n1_ n2_ n3_ n4_; (try clear hb); (try clear hb2); (try clear hk); (try clear hi); obtain ⟨Ao40, co40, eo40⟩ := Kd.R_slice HO265.out; subst eo40; have hcz41_0 : w39.cell? ⟨gb253, 0, none⟩ = some (.slice Ao25 t254.length co25) := (blk_cell BK253.out 0).trans rfl; have hfz41_0 := blk_frozen BK253.out 0))
              go_meet
              case rel => exact ⟨_, (((t263.length : Int) != (t254.length : Int))), (by first | rfl | (simp; done) | (simp [*]; done)), H', ⟨by first | omega | exact Nat.le_refl _⟩, ⟨by (with_reducible repeat (first | apply Kd.R_alloc | apply Kd.R_drewN | apply Kd.R_drew)); exact Kd.R_mono HO265.out (fun _ hk => hk.2)⟩, ⟨by (with_reducible repeat (first | apply Kd.R_alloc | apply Kd.R_drewN | apply Kd.R_drew)); exact Kd.R_mono HO269.out (fun _ hk => hk.2)⟩, ⟨by (with_reducible repeat (first | apply Kd.N_alloc | apply Kd.N_drewN | apply Kd.N_drew)); exact Kd.N_mono HO256.out (fun _ hk => ⟨hk.1.2, ⟨hk.2, hk.1.1⟩⟩)⟩, ⟨by (with_reducible repeat (first | refine blk_drewN ?_ _ | refine blk_drew ?_ | refine blk_alloc ?_ _)); exact BK253.out⟩, ⟨by repeat (first | (with_reducible first | exact HB.out | apply below_alloc | apply pw_below_drewN | apply below_drew1 | refine below_set ?_ GE253.out) | exact HB.out)⟩⟩
            · rw [if_neg c37] at H
              have c37b0 : (t261 == t278) = false := beq_eq_false_iff_ne.mpr c37
              have c37b1 : (t261 != t278) = true := bne_iff_ne.mpr c37
              (first | rw [c37b0] | (simp only [i64_w, i32_w]; rw [c37b0]) | skip)
              have H' := Aside0.mk H
              clear H
              have hcz42_0 : w35.cell? ⟨gb253, 0, none⟩ = some (.slice Ao25 t254.length co25) := (blk_cell BK253.out 0).trans rfl
              have hfz42_0 := blk_frozen BK253.out 0
              go_wp2_with (first | (go_at_call 22; (with_reducible refine (cavilref13_Deep.calls k _ _ t254 (wrap64 ((t254.length : Int) - 1)) t278 _ ?side1 ?side2 A36.out).mono ?_); (case side1 => repeat (first | exact (Kd.N_reads' HO256.out).2.2 | (with_reducible refine Kd.C_alloc ?_ _) | (with_reducible refine Kd.C_drewN ?_ _) | (with_reducible refine Kd.C_drew ?_))); (case side2 => exact (Kd.N_reads' HO256.out).2.1); rintro e w43 ⟨rfl, hb⟩; have n0_ := Aside0.mk (Kd.N_below (by (with_reducible repeat (first | apply Kd.N_alloc | apply Kd.N_drewN | apply Kd.N_drew)); exact HO256.out) hb); have n1_ := Aside0.mk (Kd.R_below (by (with_reducible repeat (first | apply Kd.R_alloc | apply Kd.R_drewN | apply Kd.R_drew)); exact HO265.out) hb); have n2_ := Aside0.mk (Kd.R_below (by (with_reducible repeat (first | apply Kd.R_alloc | apply Kd.R_drewN | apply Kd.R_drew)); exact HO269.out) hb); have n3_ := Aside0.mk (blk_below (g := gb253) (o := .cells #[.slice Ao25 t254.length co25] 24 (0, 0)) (by (with_reducible repeat (first | refine blk_drewN ?_ _ | refine blk_drew ?_ | refine blk_alloc ?_ _)); exact BK253.out) hb); have n4_ := Aside0.mk (below_step (by repeat (first | (with_reducible first | exact HB.out | apply below_alloc | apply pw_below_drewN | apply below_drew1 | refine below_set ?_ GE253.out) | exact HB.out)) hb); clear HO256; clear HO265; clear HO269; clear BK253; clear HB; have HO256 := n0_; have HO265 := n1_; have HO269 := n2_; have BK253 := n3_; have HB := n4_; clear n0_ n1_ n2_ n3_ n4_; (try clear hb); (try clear hb2); (try clear hk); (try clear hi)))
              go_meet
              case rel => exact ⟨_, (true), (by first | rfl | (simp; done) | (simp [*]; done)), H', ⟨by first | omega | exact Nat.le_refl _⟩, ⟨by (with_reducible repeat (first | apply Kd.R_alloc | apply Kd.R_drewN | apply Kd.R_drew)); exact Kd.R_mono HO265.out (fun _ hk => hk.2)⟩, ⟨by (with_reducible repeat (first | apply Kd.R_alloc | apply Kd.R_drewN | apply Kd.R_drew)); exact Kd.R_mono HO269.out (fun _ hk => hk.2)⟩, ⟨by (with_reducible repeat (first | apply Kd.N_alloc | apply Kd.N_drewN | apply Kd.N_drew)); exact Kd.N_mono HO256.out (fun _ hk => ⟨hk.1.2, ⟨hk.2, hk.1.1⟩⟩)⟩, ⟨by (with_reducible repeat (first | refine blk_drewN ?_ _ | refine blk_drew ?_ | refine blk_alloc ?_ _)); exact BK253.out⟩, ⟨by repeat (first | (with_reducible first | exact HB.out | apply below_alloc | apply pw_below_drewN | apply below_drew1 | refine below_set ?_ GE253.out) | exact HB.out)⟩⟩
          · have H1 : (cavillaw13_TreeLooks.j0 k a1 t263 t267 t270 true t254) = some r := by rw [if_neg (show ¬ (some q277).isNone = true by simp)] at H; exact H
            clear H
            have H := H1
            clear H1
            try simp only [errW_none, errW_some, erT_no, erV_no, erT_at, erV_at]
            have H' := Aside0.mk H
            clear H
            go_wp2
            repeat (go_quiet (fail); try go_wp2)
            go_meet
            case rel => exact ⟨_, (true), (by first | rfl | (simp; done) | (simp [*]; done)), H', ⟨by first | omega | exact Nat.le_refl _⟩, ⟨by (with_reducible repeat (first | apply Kd.R_alloc | apply Kd.R_drewN | apply Kd.R_drew)); exact Kd.R_mono HO265.out (fun _ hk => hk.2)⟩, ⟨by (with_reducible repeat (first | apply Kd.R_alloc | apply Kd.R_drewN | apply Kd.R_drew)); exact Kd.R_mono HO269.out (fun _ hk => hk.2)⟩, ⟨by (with_reducible repeat (first | apply Kd.N_alloc | apply Kd.N_drewN | apply Kd.N_drew)); exact Kd.N_mono HO256.out (fun _ hk => ⟨hk.1.2, ⟨hk.2, hk.1.1⟩⟩)⟩, ⟨by (with_reducible repeat (first | refine blk_drewN ?_ _ | refine blk_drew ?_ | refine blk_alloc ?_ _)); exact BK253.out⟩, ⟨by repeat (first | (with_reducible first | exact HB.out | apply below_alloc | apply pw_below_drewN | apply below_drew1 | refine below_set ?_ GE253.out) | exact HB.out)⟩⟩
        · have H1 : (cavillaw13_TreeLooks.j0 k a1 t263 t267 t270 true t254) = some r := by rw [if_neg (show ¬ (some q276).isNone = true by simp)] at H; exact H
          clear H
          have H := H1
          clear H1
          try simp only [errW_none, errW_some, erT_no, erV_no, erT_at, erV_at]
          have H' := Aside0.mk H
          clear H
          go_wp2
          repeat (go_quiet (fail); try go_wp2)
          go_meet
          case rel => exact ⟨_, (true), (by first | rfl | (simp; done) | (simp [*]; done)), H', ⟨by first | omega | exact Nat.le_refl _⟩, ⟨by (with_reducible repeat (first | apply Kd.R_alloc | apply Kd.R_drewN | apply Kd.R_drew)); exact Kd.R_mono HO265.out (fun _ hk => hk.2)⟩, ⟨by (with_reducible repeat (first | apply Kd.R_alloc | apply Kd.R_drewN | apply Kd.R_drew)); exact Kd.R_mono HO269.out (fun _ hk => hk.2)⟩, ⟨by (with_reducible repeat (first | apply Kd.N_alloc | apply Kd.N_drewN | apply Kd.N_drew)); exact Kd.N_mono HO256.out (fun _ hk => ⟨hk.1.2, ⟨hk.2, hk.1.1⟩⟩)⟩, ⟨by (with_reducible repeat (first | refine blk_drewN ?_ _ | refine blk_drew ?_ | refine blk_alloc ?_ _)); exact BK253.out⟩, ⟨by repeat (first | (with_reducible first | exact HB.out | apply below_alloc | apply pw_below_drewN | apply below_drew1 | refine below_set ?_ GE253.out) | exact HB.out)⟩⟩
      case rest =>
        clear HC21
        try clear c2
        try clear p2
        try clear q2
        try clear c3
        try clear c4
        try clear c6
        try clear p6
        try clear c20
        try clear c20b0
        try clear c20b1
        try clear q27
        try clear c37
        try clear c37b0
        try clear c37b1
        try clear hcz12_0
        try clear hcz14_0
        try clear hcz23_0
        try clear hcz26_0
        try clear hcz28_0
        try clear hcz30_0
        try clear hcz32_0
        try clear hcz34_0
        try clear hcz38_0
        try clear hcz41_0
        try clear hcz42_0
        try clear hcz9_0
        try clear hfz12_0
        try clear hfz14_0
        try clear hfz23_0
        try clear hfz26_0
        try clear hfz28_0
        try clear hfz30_0
        try clear hfz32_0
        try clear hfz34_0
        try clear hfz38_0
        try clear hfz41_0
        try clear hfz42_0
        try clear hfz9_0
        try clear q276
        try clear q277
        obtain ⟨kq, x105_20, rfl, HA, HJ20, HO_9, HO_11, HO_254000, BK253, HB⟩ := hcut
        cases kq with
        | zero => exact absurd HA.out (by simp [cavillaw13_TreeLooks.j0])
        | succ kj20 =>
          have H := HA.out
          clear HA
          simp only [cavillaw13_TreeLooks.j0] at H
          by_cases c44 : x105_20 = true
          · subst c44
            have H1 : (some false) = some r := by rw [if_pos rfl] at H; exact H
            clear H
            have H := H1
            clear H1
            obtain rfl := Option.some.inj H
            go_wp2
            repeat (go_quiet (fail); try go_wp2)
            go_ret
            exact ⟨by first | rfl | (simp [errW_none, errW_some, erT_no, erV_no, erT_at, erV_at] <;> rfl) | (simp [*, errW_none, errW_some, erT_no, erV_no, erT_at, erV_at] <;> rfl), by repeat (first | (with_reducible first | exact HB.out | apply below_alloc | apply pw_below_drewN | apply below_drew1 | refine below_set ?_ GE253.out) | exact HB.out)⟩
          · replace c44 := Bool.eq_false_iff.mpr c44
            subst c44
            have H1 : (cavillaw13_TreeLooks.l0 kj20 a1 t267 t270 t263 (t263.length : Int) 0 t254) = some r := by rw [if_neg (show ¬ (false = true) by decide)] at H; exact H
            clear H
            have H := H1
            clear H1
            have H' := Aside0.mk H
            clear H
            obtain ⟨Ao45, co45, eo45⟩ := Kd.R_slice HO_9.out
            subst eo45
            go_wp2
            repeat (go_quiet (fail); try go_wp2)
            go_loopg [108] kj20 (fun kq v108 w' => ∃ (x108_2 : Int), v108 = .int .i64 x108_2 ∧ Aside0 (cavillaw13_TreeLooks.l0 kq a1 t267 t270 t263 (t263.length : Int) x108_2 t254 = some r) ∧ Aside0 (kq ≤ kj20) ∧ Aside0 (Kd.R (Kd.int .i64) 3 w' w.heap.size (fun k_ => some k_ ≠ ((.slice Ao45 t263.length co45) : Value).ownBlock) v268 t267) ∧ Aside0 (Kd.R (Kd.int .i64) 3 w' w.heap.size (fun k_ => some k_ ≠ (v268 : Value).ownBlock) (.slice Ao45 t263.length co45) t263) ∧ Aside0 (Kd.N k33 33 w' w.heap.size (fun k_ => some k_ ≠ (v268 : Value).ownBlock ∧ some k_ ≠ ((.slice Ao45 t263.length co45) : Value).ownBlock ∧ k_ ≠ gb253) (.slice Ao25 t254.length co25) t254) ∧ Aside0 (w'.heap[gb253]? = some (.cells #[(.slice Ao25 t254.length co25)] 24 (0, 0))) ∧ Aside0 (Below w.heap.size w w'))
            case atStart => exact ⟨(0), (by first | rfl | (simp; done) | (simp [*]; done)), H', ⟨Nat.le_refl _⟩, ⟨by (with_reducible repeat (first | apply Kd.R_alloc | apply Kd.R_drewN | apply Kd.R_drew)); exact HO_11.out⟩, ⟨by (with_reducible repeat (first | apply Kd.R_alloc | apply Kd.R_drewN | apply Kd.R_drew)); exact HO_9.out⟩, ⟨by (with_reducible repeat (first | apply Kd.N_alloc | apply Kd.N_drewN | apply Kd.N_drew)); exact Kd.N_mono HO_254000.out (fun _ hk => ⟨hk.2.1, ⟨hk.1, hk.2.2⟩⟩)⟩, ⟨by (with_reducible repeat (first | refine blk_drewN ?_ _ | refine blk_drew ?_ | refine blk_alloc ?_ _)); exact BK253.out⟩, ⟨by repeat (first | (with_reducible first | exact HB.out | apply below_alloc | apply pw_below_drewN | apply below_drew1 | refine below_set ?_ GE253.out) | exact HB.out)⟩⟩
            case round =>
              clear H'
              try clear c2
              try clear p2
              try clear q2
              try clear c3
              try clear c4
              try clear c6
              try clear p6
              try clear c20
              try clear c20b0
              try clear c20b1
              try clear q27
              try clear c37
              try clear c37b0
              try clear c37b1
              try clear c44
              try clear hcz12_0
              try clear hcz14_0
              try clear hcz23_0
              try clear hcz26_0
              try clear hcz28_0
              try clear hcz30_0
              try clear hcz32_0
              try clear hcz34_0
              try clear hcz38_0
              try clear hcz41_0
              try clear hcz42_0
              try clear hcz9_0
              try clear hfz12_0
              try clear hfz14_0
              try clear hfz23_0
              try clear hfz26_0
              try clear hfz28_0
              try clear hfz30_0
              try clear hfz32_0
              try clear hfz34_0
              try clear hfz38_0
              try clear hfz41_0
              try clear hfz42_0
              try clear hfz9_0
              try clear p2
              try clear p6
              try clear q2
              try clear q27
              try clear q276
              try clear q277
              obtain ⟨x108_2, rfl, HA, HK2, HO_11, HO_106, HO_254000, BK253, HB⟩ := hrel
              cases gk with
              | zero => exact absurd HA.out (by simp [cavillaw13_TreeLooks.l0])
              | succ k2 =>
                have H := HA.out
                clear HA
                simp only [cavillaw13_TreeLooks.l0] at H
                by_cases c46 : x108_2 < (t263.length : Int)
                · rw [if_pos c46] at H
                  have c46b0 : decide (x108_2 < (t263.length : Int)) = true := decide_eq_true c46
                  clear c46
                  by_cases c47 : 0 ≤ x108_2
                  · rw [if_pos c47] at H
                    have c47b0 : decide (0 ≤ x108_2) = true := decide_eq_true c47
                    clear c47
                    by_cases c48 : x108_2 < (t263.length : Int)
                    · rw [if_pos c48] at H
                      have c48b0 : decide (x108_2 < (t263.length : Int)) = true := decide_eq_true c48
                      clear c48
                      replace H := Option.bind_eq_some_iff.mp H
                      obtain ⟨t280, A490, H⟩ := H
                      replace H : (if (rd t263 x108_2) = t280 then (cavillaw13_TreeLooks.l0 k2 a1 t267 t270 t263 (t263.length : Int) (wrap64 (x108_2 + 1)) t254) else (some false)) = some r := H
                      have A49 := Aside0.mk A490
                      clear A490
                      by_cases c50 : (rd t263 x108_2) = t280
                      · rw [if_pos c50] at H
                        have c50b0 : ((rd t263 x108_2) == t280) = true := beq_iff_eq.mpr c50
                        have c50b1 : ((rd t263 x108_2) != t280) = false := bne_eq_false_iff_eq.mpr c50
                        clear c50
                        have H' := Aside0.mk H
                        clear H
                        have p279 : 0 ≤ (x108_2 : Int) := of_decide_eq_true (by first | (with_reducible assumption) | assumption)
                        have q279 : x108_2 < (t263.length : Int) := of_decide_eq_true (by first | (with_reducible assumption) | assumption)
                        obtain ⟨ad279, e279, hx279_0⟩ := Kd.at_int (Kd.R_reads' HO_106.out).2.2 x108_2 p279 q279
                        cases e279
                        replace p279 := eq_true p279
                        replace q279 := eq_true q279
                        have hcz51_0 : wr.cell? ⟨gb253, 0, none⟩ = some (.slice Ao25 t254.length co25) := (blk_cell BK253.out 0).trans rfl
                        have hfz51_0 := blk_frozen BK253.out 0
                        go_wp2_with (first | (go_at_call 23; (with_reducible refine (cavilref13_Parent.calls k2 _ _ t254 x108_2 t280 _ ?side1 ?side2 A49.out).mono ?_); (case side1 => repeat (first | exact (Kd.N_reads' HO_254000.out).2.2 | (with_reducible refine Kd.C_alloc ?_ _) | (with_reducible refine Kd.C_drewN ?_ _) | (with_reducible refine Kd.C_drew ?_))); (case side2 => exact (Kd.N_reads' HO_254000.out).2.1); rintro e w52 ⟨rfl, hb⟩; have n0_ := Aside0.mk (Kd.R_below (by (with_reducible repeat (first | apply Kd.R_alloc | apply Kd.R_drewN | apply Kd.R_drew)); exact HO_11.out) hb); have n1_ := Aside0.mk (Kd.R_below (by (with_reducible repeat (first | apply Kd.R_alloc | apply Kd.R_drewN | apply Kd.R_drew)); exact HO_106.out) hb); have n2_ := Aside0.mk (Kd.N_below (by (with_reducible repeat (first | apply Kd.N_alloc | apply Kd.N_drewN | apply Kd.N_drew)); exact HO_254000.out) hb); have n3_ := Aside0.mk (blk_below (g := gb253) (o := .cells #[.slice Ao25 t254.length co25] 24 (0, 0)) (by (with_reducible repeat (first | refine blk_drewN ?_ _ | refine blk_drew ?_ | refine blk_alloc ?_ _)); exact BK253.out) hb); have n4_ := Aside0.mk (below_step (by repeat (first | (with_reducible first | exact HB.out | apply below_alloc | apply pw_below_drewN | apply below_drew1 | refine below_set ?_ GE253.out) | exact HB.out)) hb); clear HO_11; clear HO_106; clear HO_254000; clear BK253; clear HB; have HO_11 := n0_; have HO_106 := n1_; have HO_254000 := n2_; have BK253 := n3_; have HB := n4_; clear n0_ n1_ n2_ n3_ n4_; (try clear hb); (try clear hb2); (try clear hk); (try clear hi)))
                        go_roundg k2
                        case measure => have := HJ20.out; have := HK2.out; omega
                        case rel => exact ⟨(wrap64 (x108_2 + 1)), (by first | rfl | (simp; done) | (simp [*]; done)), H', ⟨by have := HJ20.out; have := HK2.out; omega⟩, ⟨by (with_reducible repeat (first | apply Kd.R_alloc | apply Kd.R_drewN | apply Kd.R_drew)); exact HO_11.out⟩, ⟨by (with_reducible repeat (first | apply Kd.R_alloc | apply Kd.R_drewN | apply Kd.R_drew)); exact HO_106.out⟩, ⟨by (with_reducible repeat (first | apply Kd.N_alloc | apply Kd.N_drewN | apply Kd.N_drew)); exact HO_254000.out⟩, ⟨by (with_reducible repeat (first | refine blk_drewN ?_ _ | refine blk_drew ?_ | refine blk_alloc ?_ _)); exact BK253.out⟩, ⟨by repeat (first | (with_reducible first | exact HB.out | apply below_alloc | apply pw_below_drewN | apply below_drew1 | refine below_set ?_ GE253.out) | exact HB.out)⟩⟩
                      · rw [if_neg c50] at H
                        have c50b0 : ((rd t263 x108_2) == t280) = false := beq_eq_false_iff_ne.mpr c50
                        have c50b1 : ((rd t263 x108_2) != t280) = true := bne_iff_ne.mpr c50
                        obtain rfl := Option.some.inj H
                        have p279 : 0 ≤ (x108_2 : Int) := of_decide_eq_true (by first | (with_reducible assumption) | assumption)
                        have q279 : x108_2 < (t263.length : Int) := of_decide_eq_true (by first | (with_reducible assumption) | assumption)
                        obtain ⟨ad279, e279, hx279_0⟩ := Kd.at_int (Kd.R_reads' HO_106.out).2.2 x108_2 p279 q279
                        cases e279
                        replace p279 := eq_true p279
                        replace q279 := eq_true q279
                        have hcz53_0 : wr.cell? ⟨gb253, 0, none⟩ = some (.slice Ao25 t254.length co25) := (blk_cell BK253.out 0).trans rfl
                        have hfz53_0 := blk_frozen BK253.out 0
                        go_wp2_with (first | (go_at_call 23; (with_reducible refine (cavilref13_Parent.calls k2 _ _ t254 x108_2 t280 _ ?side1 ?side2 A49.out).mono ?_); (case side1 => repeat (first | exact (Kd.N_reads' HO_254000.out).2.2 | (with_reducible refine Kd.C_alloc ?_ _) | (with_reducible refine Kd.C_drewN ?_ _) | (with_reducible refine Kd.C_drew ?_))); (case side2 => exact (Kd.N_reads' HO_254000.out).2.1); rintro e w54 ⟨rfl, hb⟩; have n0_ := Aside0.mk (Kd.R_below (by (with_reducible repeat (first | apply Kd.R_alloc | apply Kd.R_drewN | apply Kd.R_drew)); exact HO_11.out) hb); have n1_ := Aside0.mk (Kd.R_below (by (with_reducible repeat (first | apply Kd.R_alloc | apply Kd.R_drewN | apply Kd.R_drew)); exact HO_106.out) hb); have n2_ := Aside0.mk (Kd.N_below (by (with_reducible repeat (first | apply Kd.N_alloc | apply Kd.N_drewN | apply Kd.N_drew)); exact HO_254000.out) hb); have n3_ := Aside0.mk (blk_below (g := gb253) (o := .cells #[.slice Ao25 t254.length co25] 24 (0, 0)) (by (with_reducible repeat (first | refine blk_drewN ?_ _ | refine blk_drew ?_ | refine blk_alloc ?_ _)); exact BK253.out) hb); have n4_ := Aside0.mk (below_step (by repeat (first | (with_reducible first | exact HB.out | apply below_alloc | apply pw_below_drewN | apply below_drew1 | refine below_set ?_ GE253.out) | exact HB.out)) hb); clear HO_11; clear HO_106; clear HO_254000; clear BK253; clear HB; have HO_11 := n0_; have HO_106 := n1_; have HO_254000 := n2_; have BK253 := n3_; have HB := n4_; clear n0_ n1_ n2_ n3_ n4_; (try clear hb); (try clear hb2); (try clear hk); (try clear hi)))
                        go_ret
                        exact ⟨by first | rfl | (simp [errW_none, errW_some, erT_no, erV_no, erT_at, erV_at] <;> rfl) | (simp [*, errW_none, errW_some, erT_no, erV_no, erT_at, erV_at] <;> rfl), by repeat (first | (with_reducible first | exact HB.out | apply below_alloc | apply pw_below_drewN | apply below_drew1 | refine below_set ?_ GE253.out) | exact HB.out)⟩
                    · rw [if_neg c48] at H
                      exact absurd H (by simp)
                  · rw [if_neg c47] at H
                    exact absurd H (by simp)
                · rw [if_neg c46] at H
                  have c46b0 : decide (x108_2 < (t263.length : Int)) = false := decide_eq_false c46
                  clear c46
                  have HC55 := Aside0.mk H
                  clear H
                  go_upto_region 18 with (fail)
                  repeat (go_quiet (fail); go_upto_region 18 with (fail))
                  go_cut [127] (fun v127 wc => ∃ (kq : Nat) (x127_54 : Bool), v127 = .bool x127_54 ∧ Aside0 (cavillaw13_TreeLooks.j2 kq a1 t267 t270 x127_54 t254 = some r) ∧ Aside0 (kq ≤ k2) ∧ Aside0 (Kd.R (Kd.int .i64) 3 wc w.heap.size (fun _ => True) v268 t267) ∧ Aside0 (Kd.N k33 33 wc w.heap.size (fun k_ => some k_ ≠ (v268 : Value).ownBlock ∧ k_ ≠ gb253) (.slice Ao25 t254.length co25) t254) ∧ Aside0 (wc.heap[gb253]? = some (.cells #[(.slice Ao25 t254.length co25)] 24 (0, 0))) ∧ Aside0 (Below w.heap.size w wc))
                  case first =>
                    have H := HC55.out
                    clear HC55
                    by_cases c56 : a1 < 0
                    · rw [if_pos c56] at H
                      have c56b0 : decide (a1 < 0) = true := decide_eq_true c56
                      clear c56
                      (first | rw [c56b0] | (simp only [i64_w, i32_w]; rw [c56b0]) | skip)
                      have H' := Aside0.mk H
                      clear H
                      go_wp2
                      repeat (go_quiet (fail); try go_wp2)
                      go_meet
                      case rel => exact ⟨_, (true), (by first | rfl | (simp; done) | (simp [*]; done)), H', ⟨by have := HJ20.out; have := HK2.out; first | omega | exact Nat.le_refl _⟩, ⟨by (with_reducible repeat (first | apply Kd.R_alloc | apply Kd.R_drewN | apply Kd.R_drew)); exact Kd.R_mono HO_11.out (fun _ hk => trivial)⟩, ⟨by (with_reducible repeat (first | apply Kd.N_alloc | apply Kd.N_drewN | apply Kd.N_drew)); exact Kd.N_mono HO_254000.out (fun _ hk => ⟨hk.1, hk.2.2⟩)⟩, ⟨by (with_reducible repeat (first | refine blk_drewN ?_ _ | refine blk_drew ?_ | refine blk_alloc ?_ _)); exact BK253.out⟩, ⟨by repeat (first | (with_reducible first | exact HB.out | apply below_alloc | apply pw_below_drewN | apply below_drew1 | refine below_set ?_ GE253.out) | exact HB.out)⟩⟩
                    · rw [if_neg c56] at H
                      have c56b0 : decide (a1 < 0) = false := decide_eq_false c56
                      clear c56
                      (first | rw [c56b0] | (simp only [i64_w, i32_w]; rw [c56b0]) | skip)
                      have H' := Aside0.mk H
                      clear H
                      have hcz57_0 : wr.cell? ⟨gb253, 0, none⟩ = some (.slice Ao25 t254.length co25) := (blk_cell BK253.out 0).trans rfl
                      have hfz57_0 := blk_frozen BK253.out 0
                      go_wp2
                      repeat (go_quiet (fail); try go_wp2)
                      go_meet
                      case rel => exact ⟨_, (decide (a1 ≥ (t254.length : Int))), (by first | rfl | (simp; done) | (simp [*]; done)), H', ⟨by have := HJ20.out; have := HK2.out; first | omega | exact Nat.le_refl _⟩, ⟨by (with_reducible repeat (first | apply Kd.R_alloc | apply Kd.R_drewN | apply Kd.R_drew)); exact Kd.R_mono HO_11.out (fun _ hk => trivial)⟩, ⟨by (with_reducible repeat (first | apply Kd.N_alloc | apply Kd.N_drewN | apply Kd.N_drew)); exact Kd.N_mono HO_254000.out (fun _ hk => ⟨hk.1, hk.2.2⟩)⟩, ⟨by (with_reducible repeat (first | refine blk_drewN ?_ _ | refine blk_drew ?_ | refine blk_alloc ?_ _)); exact BK253.out⟩, ⟨by repeat (first | (with_reducible first | exact HB.out | apply below_alloc | apply pw_below_drewN | apply below_drew1 | refine below_set ?_ GE253.out) | exact HB.out)⟩⟩
                  case rest =>
                    clear HC55
                    try clear c2
                    try clear p2
                    try clear q2
                    try clear hx2
                    try clear c3
                    try clear c4
                    try clear c5
                    try clear c6
                    try clear p6
                    try clear c20
                    try clear c20b0
                    try clear c20b1
                    try clear p27
                    try clear q27
                    try clear hx27
                    try clear c37
                    try clear c37b0
                    try clear c37b1
                    try clear c44
                    try clear c46
                    try clear c46b0
                    try clear c47
                    try clear c47b0
                    try clear c48
                    try clear c48b0
                    try clear c50
                    try clear c50b0
                    try clear c50b1
                    try clear c56
                    try clear c56b0
                    try clear hcz12_0
                    try clear hcz14_0
                    try clear hcz23_0
                    try clear hcz26_0
                    try clear hcz28_0
                    try clear hcz30_0
                    try clear hcz32_0
                    try clear hcz34_0
                    try clear hcz38_0
                    try clear hcz41_0
                    try clear hcz42_0
                    try clear hcz51_0
                    try clear hcz53_0
                    try clear hcz57_0
                    try clear hcz9_0
                    try clear hfz12_0
                    try clear hfz14_0
                    try clear hfz23_0
                    try clear hfz26_0
                    try clear hfz28_0
                    try clear hfz30_0
                    try clear hfz32_0
                    try clear hfz34_0
                    try clear hfz38_0
                    try clear hfz41_0
                    try clear hfz42_0
                    try clear hfz51_0
                    try clear hfz53_0
                    try clear hfz57_0
                    try clear hfz9_0
                    try clear hx279_0
                    try clear p2
                    try clear p279
                    try clear p6
                    try clear q2
                    try clear q27
                    try clear q276
                    try clear q277
                    try clear q279
                    obtain ⟨kq, x127_54, rfl, HA, HJ54, HO_11, HO_254000, BK253, HB⟩ := hcut
                    cases kq with
                    | zero => exact absurd HA.out (by simp [cavillaw13_TreeLooks.j2])
                    | succ kj54 =>
                      have H := HA.out
                      clear HA
                      simp only [cavillaw13_TreeLooks.j2] at H
                      by_cases c58 : x127_54 = true
                      · subst c58
                        have H1 : ((cavillaw01_Code.f kj54 t270).bind fun t281 => (if t281 = 4 then (if (t267.length : Int) = 0 then ((cavillaw13_works.f kj54).bind fun t282 => (some t282)) else (some false)) else (some false))) = some r := by rw [if_pos rfl] at H; exact H
                        clear H
                        have H := H1
                        clear H1
                        replace H := Option.bind_eq_some_iff.mp H
                        obtain ⟨t281, A590, H⟩ := H
                        replace H : (if t281 = 4 then (if (t267.length : Int) = 0 then ((cavillaw13_works.f kj54).bind fun t282 => (some t282)) else (some false)) else (some false)) = some r := H
                        have A59 := Aside0.mk A590
                        clear A590
                        by_cases c60 : t281 = 4
                        · rw [if_pos c60] at H
                          have c60b0 : (t281 == 4) = true := beq_iff_eq.mpr c60
                          have c60b1 : (t281 != 4) = false := bne_eq_false_iff_eq.mpr c60
                          clear c60
                          by_cases c61 : (t267.length : Int) = 0
                          · rw [if_pos c61] at H
                            have c61b0 : ((t267.length : Int) == 0) = true := beq_iff_eq.mpr c61
                            have c61b1 : ((t267.length : Int) != 0) = false := bne_eq_false_iff_eq.mpr c61
                            clear c61
                            replace H := Option.bind_eq_some_iff.mp H
                            obtain ⟨t282, A620, H⟩ := H
                            replace H : (some t282) = some r := H
                            have A62 := Aside0.mk A620
                            clear A620
                            obtain rfl := Option.some.inj H
                            have CA59 := fun W => cavillaw01_Code.calls kj54 t270 t281 W A59.out
                            try simp only [errW_none, errW_some, erT_no, erV_no, erT_at, erV_at] at CA59
                            go_wp2_with (first | (go_at_call 13; (with_reducible refine (CA59 _).mono ?_); rintro e w63 ⟨rfl, hb⟩; have n0_ := Aside0.mk (Kd.R_below (by (with_reducible repeat (first | apply Kd.R_alloc | apply Kd.R_drewN | apply Kd.R_drew)); exact HO_11.out) hb); have n1_ := Aside0.mk (Kd.N_below (by (with_reducible repeat (first | apply Kd.N_alloc | apply Kd.N_drewN | apply Kd.N_drew)); exact HO_254000.out) hb); have n2_ := Aside0.mk (blk_below (g := gb253) (o := .cells #[.slice Ao25 t254.length co25] 24 (0, 0)) (by (with_reducible repeat (first | refine blk_drewN ?_ _ | refine blk_drew ?_ | refine blk_alloc ?_ _)); exact BK253.out) hb); have n3_ := Aside0.mk (below_step (by repeat (first | (with_reducible first | exact HB.out | apply below_alloc | apply pw_below_drewN | apply below_drew1 | refine below_set ?_ GE253.out) | exact HB.out)) hb); clear HO_11; clear HO_254000; clear BK253; clear HB; have HO_11 := n0_; have HO_254000 := n1_; have BK253 := n2_; have HB := n3_; clear n0_ n1_ n2_ n3_; (try clear hb); (try clear hb2); (try clear hk); (try clear hi); obtain ⟨Ao64, co64, eo64⟩ := Kd.R_slice HO_11.out; subst eo64) | (go_at_call 16; (with_reducible refine (cavillaw13_works.calls kj54  t282 _ A62.out).mono ?_); rintro e w65 ⟨rfl, hb⟩; have n0_ := Aside0.mk (Kd.R_below (by (with_reducible repeat (first | apply Kd.R_alloc | apply Kd.R_drewN | apply Kd.R_drew)); exact HO_11.out) hb); have n1_ := Aside0.mk (Kd.N_below (by (with_reducible repeat (first | apply Kd.N_alloc | apply Kd.N_drewN | apply Kd.N_drew)); exact HO_254000.out) hb); have n2_ := Aside0.mk (blk_below (g := gb253) (o := .cells #[.slice Ao25 t254.length co25] 24 (0, 0)) (by (with_reducible repeat (first | refine blk_drewN ?_ _ | refine blk_drew ?_ | refine blk_alloc ?_ _)); exact BK253.out) hb); have n3_ := Aside0.mk (below_step (by repeat (first | (with_reducible first | exact HB.out | apply below_alloc | apply pw_below_drewN | apply below_drew1 | refine below_set ?_ GE253.out) | exact HB.out)) hb); clear HO_11; clear HO_254000; clear BK253; clear HB; have HO_11 := n0_; have HO_254000 := n1_; have BK253 := n2_; have HB := n3_; clear n0_ n1_ n2_ n3_; (try clear hb); (try clear hb2); (try clear hk); (try clear hi)))
                            go_ret
                            exact ⟨by first | rfl | (simp [errW_none, errW_some, erT_no, erV_no, erT_at, erV_at] <;> rfl) | (simp [*, errW_none, errW_some, erT_no, erV_no, erT_at, erV_at] <;> rfl), by repeat (first | (with_reducible first | exact HB.out | apply below_alloc | apply pw_below_drewN | apply below_drew1 | refine below_set ?_ GE253.out) | exact HB.out)⟩
                          · rw [if_neg c61] at H
                            have c61b0 : ((t267.length : Int) == 0) = false := beq_eq_false_iff_ne.mpr c61
                            have c61b1 : ((t267.length : Int) != 0) = true := bne_iff_ne.mpr c61
                            have c61b2 : ¬ (t267 = []) := fun h_ => c61 (by rw [h_]; rfl)
                            obtain rfl := Option.some.inj H
                            have CA59 := fun W => cavillaw01_Code.calls kj54 t270 t281 W A59.out
                            try simp only [errW_none, errW_some, erT_no, erV_no, erT_at, erV_at] at CA59
                            go_wp2_with (first | (go_at_call 13; (with_reducible refine (CA59 _).mono ?_); rintro e w66 ⟨rfl, hb⟩; have n0_ := Aside0.mk (Kd.R_below (by (with_reducible repeat (first | apply Kd.R_alloc | apply Kd.R_drewN | apply Kd.R_drew)); exact HO_11.out) hb); have n1_ := Aside0.mk (Kd.N_below (by (with_reducible repeat (first | apply Kd.N_alloc | apply Kd.N_drewN | apply Kd.N_drew)); exact HO_254000.out) hb); have n2_ := Aside0.mk (blk_below (g := gb253) (o := .cells #[.slice Ao25 t254.length co25] 24 (0, 0)) (by (with_reducible repeat (first | refine blk_drewN ?_ _ | refine blk_drew ?_ | refine blk_alloc ?_ _)); exact BK253.out) hb); have n3_ := Aside0.mk (below_step (by repeat (first | (with_reducible first | exact HB.out | apply below_alloc | apply pw_below_drewN | apply below_drew1 | refine below_set ?_ GE253.out) | exact HB.out)) hb); clear HO_11; clear HO_254000; clear BK253; clear HB; have HO_11 := n0_; have HO_254000 := n1_; have BK253 := n2_; have HB := n3_; clear n0_ n1_ n2_ n3_; (try clear hb); (try clear hb2); (try clear hk); (try clear hi); obtain ⟨Ao67, co67, eo67⟩ := Kd.R_slice HO_11.out; subst eo67))
                            go_ret
                            exact ⟨by first | rfl | (simp [errW_none, errW_some, erT_no, erV_no, erT_at, erV_at] <;> rfl) | (simp [*, errW_none, errW_some, erT_no, erV_no, erT_at, erV_at] <;> rfl), by repeat (first | (with_reducible first | exact HB.out | apply below_alloc | apply pw_below_drewN | apply below_drew1 | refine below_set ?_ GE253.out) | exact HB.out)⟩
                        · rw [if_neg c60] at H
                          have c60b0 : (t281 == 4) = false := beq_eq_false_iff_ne.mpr c60
                          have c60b1 : (t281 != 4) = true := bne_iff_ne.mpr c60
                          obtain rfl := Option.some.inj H
                          have CA59 := fun W => cavillaw01_Code.calls kj54 t270 t281 W A59.out
                          try simp only [errW_none, errW_some, erT_no, erV_no, erT_at, erV_at] at CA59
                          go_wp2_with (first | (go_at_call 13; (with_reducible refine (CA59 _).mono ?_); rintro e w68 ⟨rfl, hb⟩; have n0_ := Aside0.mk (Kd.R_below (by (with_reducible repeat (first | apply Kd.R_alloc | apply Kd.R_drewN | apply Kd.R_drew)); exact HO_11.out) hb); have n1_ := Aside0.mk (Kd.N_below (by (with_reducible repeat (first | apply Kd.N_alloc | apply Kd.N_drewN | apply Kd.N_drew)); exact HO_254000.out) hb); have n2_ := Aside0.mk (blk_below (g := gb253) (o := .cells #[.slice Ao25 t254.length co25] 24 (0, 0)) (by (with_reducible repeat (first | refine blk_drewN ?_ _ | refine blk_drew ?_ | refine blk_alloc ?_ _)); exact BK253.out) hb); have n3_ := Aside0.mk (below_step (by repeat (first | (with_reducible first | exact HB.out | apply below_alloc | apply pw_below_drewN | apply below_drew1 | refine below_set ?_ GE253.out) | exact HB.out)) hb); clear HO_11; clear HO_254000; clear BK253; clear HB; have HO_11 := n0_; have HO_254000 := n1_; have BK253 := n2_; have HB := n3_; clear n0_ n1_ n2_ n3_; (try clear hb); (try clear hb2); (try clear hk); (try clear hi)))
                          go_ret
                          exact ⟨by first | rfl | (simp [errW_none, errW_some, erT_no, erV_no, erT_at, erV_at] <;> rfl) | (simp [*, errW_none, errW_some, erT_no, erV_no, erT_at, erV_at] <;> rfl), by repeat (first | (with_reducible first | exact HB.out | apply below_alloc | apply pw_below_drewN | apply below_drew1 | refine below_set ?_ GE253.out) | exact HB.out)⟩
                      · replace c58 := Bool.eq_false_iff.mpr c58
                        subst c58
                        have H1 : ((cavilref13_Own.f kj54 t254 a1).bind fun t283 => (if t270.isNone = true then (cavillaw13_TreeLooks.j3 kj54 t267 t283 ((t267.length : Int) != (t283.length : Int))) else (cavillaw13_TreeLooks.j3 kj54 t267 t283 true))) = some r := by rw [if_neg (show ¬ (false = true) by decide)] at H; exact H
                        clear H
                        have H := H1
                        clear H1
                        replace H := Option.bind_eq_some_iff.mp H
                        obtain ⟨t283, A690, H⟩ := H
                        replace H : (if t270.isNone = true then (cavillaw13_TreeLooks.j3 kj54 t267 t283 ((t267.length : Int) != (t283.length : Int))) else (cavillaw13_TreeLooks.j3 kj54 t267 t283 true)) = some r := H
                        have A69 := Aside0.mk A690
                        clear A690
                        have HC70 := Aside0.mk H
                        clear H
                        have hcz71_0 : wc.cell? ⟨gb253, 0, none⟩ = some (.slice Ao25 t254.length co25) := (blk_cell BK253.out 0).trans rfl
                        have hfz71_0 := blk_frozen BK253.out 0
                        go_upto_region 21 with (first | (go_at_call 24; (with_reducible refine (cavilref13_Own.calls kj54 _ _ t254 a1 t283 _ ?side1 ?side2 A69.out).mono ?_); (case side1 => repeat (first | exact (Kd.N_reads' HO_254000.out).2.2 | (with_reducible refine Kd.C_alloc ?_ _) | (with_reducible refine Kd.C_drewN ?_ _) | (with_reducible refine Kd.C_drew ?_))); (case side2 => exact (Kd.N_reads' HO_254000.out).2.1); rintro e w72 ⟨v284, rfl, ho0, hb⟩; have n0_ := Aside0.mk (Kd.R_elder' (by (with_reducible repeat (first | apply Kd.R_alloc | apply Kd.R_drewN | apply Kd.R_drew)); exact HO_11.out) (Kd.R_base ho0) hb); have n1_ := Aside0.mk (Kd.N_elder' (by (with_reducible repeat (first | apply Kd.N_alloc | apply Kd.N_drewN | apply Kd.N_drew)); exact HO_254000.out) (Kd.R_base ho0) hb); have n2_ := Aside0.mk (Kd.R_lower (Kd.R_new' ho0 (Kd.R_lt (by (with_reducible repeat (first | apply Kd.R_alloc | apply Kd.R_drewN | apply Kd.R_drew)); exact HO_11.out))) (below_size (by repeat (first | (with_reducible first | exact HB.out | apply below_alloc | apply pw_below_drewN | apply below_drew1 | refine below_set ?_ GE253.out) | exact HB.out)))); have n3_ := Aside0.mk (blk_below (g := gb253) (o := .cells #[.slice Ao25 t254.length co25] 24 (0, 0)) (by (with_reducible repeat (first | refine blk_drewN ?_ _ | refine blk_drew ?_ | refine blk_alloc ?_ _)); exact BK253.out) hb); have n4_ := Aside0.mk (below_step (by repeat (first | (with_reducible first | exact HB.out | apply below_alloc | apply pw_below_drewN | apply below_drew1 | refine below_set ?_ GE253.out) | exact HB.out)) hb); clear HO_11; clear HO_254000; clear BK253; clear HB; have HO_11 := n0_; have HO_254000 := n1_; have HO285 := n2_; have BK253 := n3_; have HB := n4_; clear n0_ n1_ n2_ n3_ n4_; (try clear hb); (try clear hb2); (try clear hk); (try clear hi); (try clear ho0)))
                        (try simp only [Act.put, List.setIfInBounds_toArray, List.set_cons_zero, List.set_cons_succ])
                        go_cut [150] (fun v150 wc => ∃ (kq : Nat) (x150_69 : Bool), v150 = .bool x150_69 ∧ Aside0 (cavillaw13_TreeLooks.j3 kq t267 t283 x150_69 = some r) ∧ Aside0 (kq ≤ kj54) ∧ Aside0 (Kd.R (Kd.int .i64) 3 wc w.heap.size (fun k_ => some k_ ≠ (v284 : Value).ownBlock) v268 t267) ∧ Aside0 (Kd.R (Kd.int .i64) 3 wc w.heap.size (fun k_ => some k_ ≠ (v268 : Value).ownBlock) v284 t283) ∧ Aside0 (Kd.N k33 33 wc w.heap.size (fun k_ => some k_ ≠ (v268 : Value).ownBlock ∧ some k_ ≠ (v284 : Value).ownBlock ∧ k_ ≠ gb253) (.slice Ao25 t254.length co25) t254) ∧ Aside0 (wc.heap[gb253]? = some (.cells #[(.slice Ao25 t254.length co25)] 24 (0, 0))) ∧ Aside0 (Below w.heap.size w wc))
                        case first =>
                          have H := HC70.out
                          clear HC70
                          rcases t270 with _ | q286
                          · have H1 : (cavillaw13_TreeLooks.j3 kj54 t267 t283 ((t267.length : Int) != (t283.length : Int))) = some r := by rw [if_pos (show (none : Option Er).isNone = true by rfl)] at H; exact H
                            clear H
                            have H := H1
                            clear H1
                            try simp only [errW_none, errW_some, erT_no, erV_no, erT_at, erV_at]
                            have H' := Aside0.mk H
                            clear H
                            obtain ⟨Ao73, co73, eo73⟩ := Kd.R_slice HO_11.out
                            subst eo73
                            obtain ⟨Ao74, co74, eo74⟩ := Kd.R_slice HO285.out
                            subst eo74
                            go_wp2
                            repeat (go_quiet (fail); try go_wp2)
                            go_meet
                            case rel => exact ⟨_, (((t267.length : Int) != (t283.length : Int))), (by first | rfl | (simp; done) | (simp [*]; done)), H', ⟨by have := HJ20.out; have := HK2.out; have := HJ54.out; first | omega | exact Nat.le_refl _⟩, ⟨by (with_reducible repeat (first | apply Kd.R_alloc | apply Kd.R_drewN | apply Kd.R_drew)); exact Kd.R_mono HO_11.out (fun _ hk => hk.2)⟩, ⟨by (with_reducible repeat (first | apply Kd.R_alloc | apply Kd.R_drewN | apply Kd.R_drew)); exact Kd.R_mono HO285.out (fun _ hk => hk.2)⟩, ⟨by (with_reducible repeat (first | apply Kd.N_alloc | apply Kd.N_drewN | apply Kd.N_drew)); exact Kd.N_mono HO_254000.out (fun _ hk => ⟨hk.1.1, ⟨hk.2, hk.1.2⟩⟩)⟩, ⟨by (with_reducible repeat (first | refine blk_drewN ?_ _ | refine blk_drew ?_ | refine blk_alloc ?_ _)); exact BK253.out⟩, ⟨by repeat (first | (with_reducible first | exact HB.out | apply below_alloc | apply pw_below_drewN | apply below_drew1 | refine below_set ?_ GE253.out) | exact HB.out)⟩⟩
                          · have H1 : (cavillaw13_TreeLooks.j3 kj54 t267 t283 true) = some r := by rw [if_neg (show ¬ (some q286).isNone = true by simp)] at H; exact H
                            clear H
                            have H := H1
                            clear H1
                            try simp only [errW_none, errW_some, erT_no, erV_no, erT_at, erV_at]
                            have H' := Aside0.mk H
                            clear H
                            go_wp2
                            repeat (go_quiet (fail); try go_wp2)
                            go_meet
                            case rel => exact ⟨_, (true), (by first | rfl | (simp; done) | (simp [*]; done)), H', ⟨by have := HJ20.out; have := HK2.out; have := HJ54.out; first | omega | exact Nat.le_refl _⟩, ⟨by (with_reducible repeat (first | apply Kd.R_alloc | apply Kd.R_drewN | apply Kd.R_drew)); exact Kd.R_mono HO_11.out (fun _ hk => hk.2)⟩, ⟨by (with_reducible repeat (first | apply Kd.R_alloc | apply Kd.R_drewN | apply Kd.R_drew)); exact Kd.R_mono HO285.out (fun _ hk => hk.2)⟩, ⟨by (with_reducible repeat (first | apply Kd.N_alloc | apply Kd.N_drewN | apply Kd.N_drew)); exact Kd.N_mono HO_254000.out (fun _ hk => ⟨hk.1.1, ⟨hk.2, hk.1.2⟩⟩)⟩, ⟨by (with_reducible repeat (first | refine blk_drewN ?_ _ | refine blk_drew ?_ | refine blk_alloc ?_ _)); exact BK253.out⟩, ⟨by repeat (first | (with_reducible first | exact HB.out | apply below_alloc | apply pw_below_drewN | apply below_drew1 | refine below_set ?_ GE253.out) | exact HB.out)⟩⟩
                        case rest =>
                          clear HC70
                          try clear c2
                          try clear p2
                          try clear q2
                          try clear hx2
                          try clear c3
                          try clear c4
                          try clear c5
                          try clear c6
                          try clear p6
                          try clear c20
                          try clear c20b0
                          try clear c20b1
                          try clear p27
                          try clear q27
                          try clear hx27
                          try clear q28
                          try clear c37
                          try clear c37b0
                          try clear c37b1
                          try clear c44
                          try clear c46
                          try clear c46b0
                          try clear c47
                          try clear c47b0
                          try clear c48
                          try clear c48b0
                          try clear c50
                          try clear c50b0
                          try clear c50b1
                          try clear c56
                          try clear c56b0
                          try clear c58
                          try clear c60
                          try clear c60b0
                          try clear c60b1
                          try clear c61
                          try clear c61b0
                          try clear c61b1
                          try clear c61b2
                          try clear p64
                          try clear hcz12_0
                          try clear hcz14_0
                          try clear hcz23_0
                          try clear hcz26_0
                          try clear hcz28_0
                          try clear hcz30_0
                          try clear hcz32_0
                          try clear hcz34_0
                          try clear hcz38_0
                          try clear hcz41_0
                          try clear hcz42_0
                          try clear hcz51_0
                          try clear hcz53_0
                          try clear hcz57_0
                          try clear hcz71_0
                          try clear hcz9_0
                          try clear hfz12_0
                          try clear hfz14_0
                          try clear hfz23_0
                          try clear hfz26_0
                          try clear hfz28_0
                          try clear hfz30_0
                          try clear hfz32_0
                          try clear hfz34_0
                          try clear hfz38_0
                          try clear hfz41_0
                          try clear hfz42_0
                          try clear hfz51_0
                          try clear hfz53_0
                          try clear hfz57_0
                          try clear hfz71_0
                          try clear hfz9_0
                          try clear hx279_0
                          try clear p2
                          try clear p27
                          try clear p279
                          try clear p6
                          try clear q2
                          try clear q27
                          try clear q276
                          try clear q277
                          try clear q279
                          try clear q286
                          obtain ⟨kq, x150_69, rfl, HA, HJ69, HO_11, HO_15, HO_254000, BK253, HB⟩ := hcut
                          cases kq with
                          | zero => exact absurd HA.out (by simp [cavillaw13_TreeLooks.j3])
                          | succ kj69 =>
                            have H := HA.out
                            clear HA
                            simp only [cavillaw13_TreeLooks.j3] at H
                            by_cases c75 : x150_69 = true
                            · subst c75
                              have H1 : (some false) = some r := by rw [if_pos rfl] at H; exact H
                              clear H
                              have H := H1
                              clear H1
                              obtain rfl := Option.some.inj H
                              go_wp2
                              repeat (go_quiet (fail); try go_wp2)
                              go_ret
                              exact ⟨by first | rfl | (simp [errW_none, errW_some, erT_no, erV_no, erT_at, erV_at] <;> rfl) | (simp [*, errW_none, errW_some, erT_no, erV_no, erT_at, erV_at] <;> rfl), by repeat (first | (with_reducible first | exact HB.out | apply below_alloc | apply pw_below_drewN | apply below_drew1 | refine below_set ?_ GE253.out) | exact HB.out)⟩
                            · replace c75 := Bool.eq_false_iff.mpr c75
                              subst c75
                              have H1 : (cavillaw13_TreeLooks.l1 kj69 t267 t283 (t267.length : Int) 0) = some r := by rw [if_neg (show ¬ (false = true) by decide)] at H; exact H
                              clear H
                              have H := H1
                              clear H1
                              have H' := Aside0.mk H
                              clear H
                              obtain ⟨Ao76, co76, eo76⟩ := Kd.R_slice HO_11.out
                              subst eo76
                              go_wp2
                              repeat (go_quiet (fail); try go_wp2)
                              go_loopg [153] kj69 (fun kq v153 w' => ∃ (x153_5 : Int), v153 = .int .i64 x153_5 ∧ Aside0 (cavillaw13_TreeLooks.l1 kq t267 t283 (t267.length : Int) x153_5 = some r) ∧ Aside0 (kq ≤ kj69) ∧ Aside0 (Kd.R (Kd.int .i64) 3 w' w.heap.size (fun k_ => some k_ ≠ (v284 : Value).ownBlock) (.slice Ao76 t267.length co76) t267) ∧ Aside0 (Kd.R (Kd.int .i64) 3 w' w.heap.size (fun k_ => some k_ ≠ ((.slice Ao76 t267.length co76) : Value).ownBlock) v284 t283) ∧ Aside0 (Kd.N k33 33 w' w.heap.size (fun k_ => some k_ ≠ ((.slice Ao76 t267.length co76) : Value).ownBlock ∧ some k_ ≠ (v284 : Value).ownBlock ∧ k_ ≠ gb253) (.slice Ao25 t254.length co25) t254) ∧ Aside0 (w'.heap[gb253]? = some (.cells #[(.slice Ao25 t254.length co25)] 24 (0, 0))) ∧ Aside0 (Below w.heap.size w w'))
                              case atStart => exact ⟨(0), (by first | rfl | (simp; done) | (simp [*]; done)), H', ⟨Nat.le_refl _⟩, ⟨by (with_reducible repeat (first | apply Kd.R_alloc | apply Kd.R_drewN | apply Kd.R_drew)); exact HO_11.out⟩, ⟨by (with_reducible repeat (first | apply Kd.R_alloc | apply Kd.R_drewN | apply Kd.R_drew)); exact HO_15.out⟩, ⟨by (with_reducible repeat (first | apply Kd.N_alloc | apply Kd.N_drewN | apply Kd.N_drew)); exact HO_254000.out⟩, ⟨by (with_reducible repeat (first | refine blk_drewN ?_ _ | refine blk_drew ?_ | refine blk_alloc ?_ _)); exact BK253.out⟩, ⟨by repeat (first | (with_reducible first | exact HB.out | apply below_alloc | apply pw_below_drewN | apply below_drew1 | refine below_set ?_ GE253.out) | exact HB.out)⟩⟩
                              case round =>
                                clear H'
                                try clear c2
                                try clear p2
                                try clear q2
                                try clear hx2
                                try clear c3
                                try clear c4
                                try clear c5
                                try clear c6
                                try clear p6
                                try clear c7
                                try clear c20
                                try clear c20b0
                                try clear c20b1
                                try clear p27
                                try clear q27
                                try clear hx27
                                try clear q28
                                try clear c37
                                try clear c37b0
                                try clear c37b1
                                try clear c44
                                try clear c46
                                try clear c46b0
                                try clear c47
                                try clear c47b0
                                try clear c48
                                try clear c48b0
                                try clear c50
                                try clear c50b0
                                try clear c50b1
                                try clear c56
                                try clear c56b0
                                try clear c58
                                try clear c60
                                try clear c60b0
                                try clear c60b1
                                try clear c61
                                try clear c61b0
                                try clear c61b1
                                try clear c61b2
                                try clear p64
                                try clear c75
                                try clear hcz12_0
                                try clear hcz14_0
                                try clear hcz23_0
                                try clear hcz26_0
                                try clear hcz28_0
                                try clear hcz30_0
                                try clear hcz32_0
                                try clear hcz34_0
                                try clear hcz38_0
                                try clear hcz41_0
                                try clear hcz42_0
                                try clear hcz51_0
                                try clear hcz53_0
                                try clear hcz57_0
                                try clear hcz71_0
                                try clear hcz9_0
                                try clear hfz12_0
                                try clear hfz14_0
                                try clear hfz23_0
                                try clear hfz26_0
                                try clear hfz28_0
                                try clear hfz30_0
                                try clear hfz32_0
                                try clear hfz34_0
                                try clear hfz38_0
                                try clear hfz41_0
                                try clear hfz42_0
                                try clear hfz51_0
                                try clear hfz53_0
                                try clear hfz57_0
                                try clear hfz71_0
                                try clear hfz9_0
                                try clear hx279_0
                                try clear p2
                                try clear p27
                                try clear p279
                                try clear p6
                                try clear p64
                                try clear q2
                                try clear q27
                                try clear q276
                                try clear q277
                                try clear q279
                                try clear q28
                                try clear q286
                                obtain ⟨x153_5, rfl, HA, HK5, HO_11, HO_15, HO_254000, BK253, HB⟩ := hrel
                                cases gk with
                                | zero => exact absurd HA.out (by simp [cavillaw13_TreeLooks.l1])
                                | succ k5 =>
                                  have H := HA.out
                                  clear HA
                                  simp only [cavillaw13_TreeLooks.l1] at H
                                  by_cases c77 : x153_5 < (t267.length : Int)
                                  · rw [if_pos c77] at H
                                    have c77b0 : decide (x153_5 < (t267.length : Int)) = true := decide_eq_true c77
                                    clear c77
                                    by_cases c78 : 0 ≤ x153_5
                                    · rw [if_pos c78] at H
                                      have c78b0 : decide (0 ≤ x153_5) = true := decide_eq_true c78
                                      clear c78
                                      by_cases c79 : x153_5 < (t267.length : Int)
                                      · rw [if_pos c79] at H
                                        have c79b0 : decide (x153_5 < (t267.length : Int)) = true := decide_eq_true c79
                                        clear c79
                                        by_cases c80 : x153_5 < (t283.length : Int)
                                        · rw [if_pos c80] at H
                                          have c80b0 : decide (x153_5 < (t283.length : Int)) = true := decide_eq_true c80
                                          clear c80
                                          by_cases c81 : (rd t267 x153_5) = (rd t283 x153_5)
                                          · rw [if_pos c81] at H
                                            have c81b0 : ((rd t267 x153_5) == (rd t283 x153_5)) = true := beq_iff_eq.mpr c81
                                            have c81b1 : ((rd t267 x153_5) != (rd t283 x153_5)) = false := bne_eq_false_iff_eq.mpr c81
                                            clear c81
                                            have H' := Aside0.mk H
                                            clear H
                                            have p287 : 0 ≤ (x153_5 : Int) := of_decide_eq_true (by first | (with_reducible assumption) | assumption)
                                            have q287 : x153_5 < (t267.length : Int) := of_decide_eq_true (by first | (with_reducible assumption) | assumption)
                                            obtain ⟨ad287, e287, hx287_0⟩ := Kd.at_int (Kd.R_reads' HO_11.out).2.2 x153_5 p287 q287
                                            cases e287
                                            replace p287 := eq_true p287
                                            replace q287 := eq_true q287
                                            obtain ⟨Ao82, co82, eo82⟩ := Kd.R_slice HO_15.out
                                            subst eo82
                                            have p288 : 0 ≤ (x153_5 : Int) := of_decide_eq_true (by first | (with_reducible assumption) | assumption)
                                            have q288 : x153_5 < (t283.length : Int) := of_decide_eq_true (by first | (with_reducible assumption) | assumption)
                                            obtain ⟨ad288, e288, hx288_0⟩ := Kd.at_int (Kd.R_reads' HO_15.out).2.2 x153_5 p288 q288
                                            cases e288
                                            replace p288 := eq_true p288
                                            replace q288 := eq_true q288
                                            go_wp2
                                            repeat (go_quiet (fail); try go_wp2)
                                            go_roundg k5
                                            case measure => have := HJ20.out; have := HK2.out; have := HJ54.out; have := HJ69.out; have := HK5.out; omega
                                            case rel => exact ⟨(wrap64 (x153_5 + 1)), (by first | rfl | (simp; done) | (simp [*]; done)), H', ⟨by have := HJ20.out; have := HK2.out; have := HJ54.out; have := HJ69.out; have := HK5.out; omega⟩, ⟨by (with_reducible repeat (first | apply Kd.R_alloc | apply Kd.R_drewN | apply Kd.R_drew)); exact HO_11.out⟩, ⟨by (with_reducible repeat (first | apply Kd.R_alloc | apply Kd.R_drewN | apply Kd.R_drew)); exact HO_15.out⟩, ⟨by (with_reducible repeat (first | apply Kd.N_alloc | apply Kd.N_drewN | apply Kd.N_drew)); exact HO_254000.out⟩, ⟨by (with_reducible repeat (first | refine blk_drewN ?_ _ | refine blk_drew ?_ | refine blk_alloc ?_ _)); exact BK253.out⟩, ⟨by repeat (first | (with_reducible first | exact HB.out | apply below_alloc | apply pw_below_drewN | apply below_drew1 | refine below_set ?_ GE253.out) | exact HB.out)⟩⟩
                                          · rw [if_neg c81] at H
                                            have c81b0 : ((rd t267 x153_5) == (rd t283 x153_5)) = false := beq_eq_false_iff_ne.mpr c81
                                            have c81b1 : ((rd t267 x153_5) != (rd t283 x153_5)) = true := bne_iff_ne.mpr c81
                                            obtain rfl := Option.some.inj H
                                            have p287 : 0 ≤ (x153_5 : Int) := of_decide_eq_true (by first | (with_reducible assumption) | assumption)
                                            have q287 : x153_5 < (t267.length : Int) := of_decide_eq_true (by first | (with_reducible assumption) | assumption)
                                            obtain ⟨ad287, e287, hx287_0⟩ := Kd.at_int (Kd.R_reads' HO_11.out).2.2 x153_5 p287 q287
                                            cases e287
                                            replace p287 := eq_true p287
                                            replace q287 := eq_true q287
                                            obtain ⟨Ao83, co83, eo83⟩ := Kd.R_slice HO_15.out
                                            subst eo83
                                            have p288 : 0 ≤ (x153_5 : Int) := of_decide_eq_true (by first | (with_reducible assumption) | assumption)
                                            have q288 : x153_5 < (t283.length : Int) := of_decide_eq_true (by first | (with_reducible assumption) | assumption)
                                            obtain ⟨ad288, e288, hx288_0⟩ := Kd.at_int (Kd.R_reads' HO_15.out).2.2 x153_5 p288 q288
                                            cases e288
                                            replace p288 := eq_true p288
                                            replace q288 := eq_true q288
                                            go_wp2
                                            repeat (go_quiet (fail); try go_wp2)
                                            go_ret
                                            exact ⟨by first | rfl | (simp [errW_none, errW_some, erT_no, erV_no, erT_at, erV_at] <;> rfl) | (simp [*, errW_none, errW_some, erT_no, erV_no, erT_at, erV_at] <;> rfl), by repeat (first | (with_reducible first | exact HB.out | apply below_alloc | apply pw_below_drewN | apply below_drew1 | refine below_set ?_ GE253.out) | exact HB.out)⟩
                                        · rw [if_neg c80] at H
                                          exact absurd H (by simp)
                                      · rw [if_neg c79] at H
                                        exact absurd H (by simp)
                                    · rw [if_neg c78] at H
                                      exact absurd H (by simp)
                                  · rw [if_neg c77] at H
                                    have c77b0 : decide (x153_5 < (t267.length : Int)) = false := decide_eq_false c77
                                    clear c77
                                    replace H := Option.bind_eq_some_iff.mp H
                                    obtain ⟨t289, A840, H⟩ := H
                                    replace H : (some t289) = some r := H
                                    have A84 := Aside0.mk A840
                                    clear A840
                                    obtain rfl := Option.some.inj H
                                    go_wp2_with (first | (go_at_call 16; (with_reducible refine (cavillaw13_works.calls k5  t289 _ A84.out).mono ?_); rintro e w85 ⟨rfl, hb⟩; have n0_ := Aside0.mk (Kd.R_below (by (with_reducible repeat (first | apply Kd.R_alloc | apply Kd.R_drewN | apply Kd.R_drew)); exact HO_11.out) hb); have n1_ := Aside0.mk (Kd.R_below (by (with_reducible repeat (first | apply Kd.R_alloc | apply Kd.R_drewN | apply Kd.R_drew)); exact HO_15.out) hb); have n2_ := Aside0.mk (Kd.N_below (by (with_reducible repeat (first | apply Kd.N_alloc | apply Kd.N_drewN | apply Kd.N_drew)); exact HO_254000.out) hb); have n3_ := Aside0.mk (blk_below (g := gb253) (o := .cells #[.slice Ao25 t254.length co25] 24 (0, 0)) (by (with_reducible repeat (first | refine blk_drewN ?_ _ | refine blk_drew ?_ | refine blk_alloc ?_ _)); exact BK253.out) hb); have n4_ := Aside0.mk (below_step (by repeat (first | (with_reducible first | exact HB.out | apply below_alloc | apply pw_below_drewN | apply below_drew1 | refine below_set ?_ GE253.out) | exact HB.out)) hb); clear HO_11; clear HO_15; clear HO_254000; clear BK253; clear HB; have HO_11 := n0_; have HO_15 := n1_; have HO_254000 := n2_; have BK253 := n3_; have HB := n4_; clear n0_ n1_ n2_ n3_ n4_; (try clear hb); (try clear hb2); (try clear hk); (try clear hi)))
                                    go_ret
                                    exact ⟨by first | rfl | (simp [errW_none, errW_some, erT_no, erV_no, erT_at, erV_at] <;> rfl) | (simp [*, errW_none, errW_some, erT_no, erV_no, erT_at, erV_at] <;> rfl), by repeat (first | (with_reducible first | exact HB.out | apply below_alloc | apply pw_below_drewN | apply below_drew1 | refine below_set ?_ GE253.out) | exact HB.out)⟩
    · rw [if_neg c20] at H
      have c20b0 : (t257 == 0) = false := beq_eq_false_iff_ne.mpr c20
      have c20b1 : (t257 != 0) = true := bne_iff_ne.mpr c20
      replace H := Option.bind_eq_some_iff.mp H
      obtain ⟨t271, A860, H⟩ := H
      replace H : (if t271 = t257 then ((cavillaw01_Off.f t262).bind fun t272 => (if t272 = t258 then ((cavillaw01_Code.f k t266).bind fun t273 => (if t273 = t257 then ((cavillaw01_Code.f k t270).bind fun t274 => (if t274 = t257 then (if t261 = 0 then (if (wrap64 ((t263.length : Int) + (t267.length : Int))) = 0 then ((cavillaw13_works.f k).bind fun t275 => (some t275)) else (some false)) else (some false)) else (some false))) else (some false))) else (some false))) else (some false)) = some r := H
      have A86 := Aside0.mk A860
      clear A860
      by_cases c87 : t271 = t257
      · rw [if_pos c87] at H
        have c87b0 : (t271 == t257) = true := beq_iff_eq.mpr c87
        have c87b1 : (t271 != t257) = false := bne_eq_false_iff_eq.mpr c87
        clear c87
        replace H := Option.bind_eq_some_iff.mp H
        obtain ⟨t272, A880, H⟩ := H
        replace H : (if t272 = t258 then ((cavillaw01_Code.f k t266).bind fun t273 => (if t273 = t257 then ((cavillaw01_Code.f k t270).bind fun t274 => (if t274 = t257 then (if t261 = 0 then (if (wrap64 ((t263.length : Int) + (t267.length : Int))) = 0 then ((cavillaw13_works.f k).bind fun t275 => (some t275)) else (some false)) else (some false)) else (some false))) else (some false))) else (some false)) = some r := H
        have A88 := Aside0.mk A880
        clear A880
        by_cases c89 : t272 = t258
        · rw [if_pos c89] at H
          have c89b0 : (t272 == t258) = true := beq_iff_eq.mpr c89
          have c89b1 : (t272 != t258) = false := bne_eq_false_iff_eq.mpr c89
          clear c89
          replace H := Option.bind_eq_some_iff.mp H
          obtain ⟨t273, A900, H⟩ := H
          replace H : (if t273 = t257 then ((cavillaw01_Code.f k t270).bind fun t274 => (if t274 = t257 then (if t261 = 0 then (if (wrap64 ((t263.length : Int) + (t267.length : Int))) = 0 then ((cavillaw13_works.f k).bind fun t275 => (some t275)) else (some false)) else (some false)) else (some false))) else (some false)) = some r := H
          have A90 := Aside0.mk A900
          clear A900
          by_cases c91 : t273 = t257
          · rw [if_pos c91] at H
            have c91b0 : (t273 == t257) = true := beq_iff_eq.mpr c91
            have c91b1 : (t273 != t257) = false := bne_eq_false_iff_eq.mpr c91
            clear c91
            replace H := Option.bind_eq_some_iff.mp H
            obtain ⟨t274, A920, H⟩ := H
            replace H : (if t274 = t257 then (if t261 = 0 then (if (wrap64 ((t263.length : Int) + (t267.length : Int))) = 0 then ((cavillaw13_works.f k).bind fun t275 => (some t275)) else (some false)) else (some false)) else (some false)) = some r := H
            have A92 := Aside0.mk A920
            clear A920
            by_cases c93 : t274 = t257
            · rw [if_pos c93] at H
              have c93b0 : (t274 == t257) = true := beq_iff_eq.mpr c93
              have c93b1 : (t274 != t257) = false := bne_eq_false_iff_eq.mpr c93
              clear c93
              by_cases c94 : t261 = 0
              · rw [if_pos c94] at H
                have c94b0 : (t261 == 0) = true := beq_iff_eq.mpr c94
                have c94b1 : (t261 != 0) = false := bne_eq_false_iff_eq.mpr c94
                clear c94
                by_cases c95 : (wrap64 ((t263.length : Int) + (t267.length : Int))) = 0
                · rw [if_pos c95] at H
                  have c95b0 : ((wrap64 ((t263.length : Int) + (t267.length : Int))) == 0) = true := beq_iff_eq.mpr c95
                  have c95b1 : ((wrap64 ((t263.length : Int) + (t267.length : Int))) != 0) = false := bne_eq_false_iff_eq.mpr c95
                  (try (have c95b2 : ((IntKind.i64.wrap ((t263.length : Int) + (t267.length : Int))) == 0) = true := by simp only [i64_w]; exact beq_iff_eq.mpr c95))
                  (try (have c95b3 : ((IntKind.i64.wrap ((t263.length : Int) + (t267.length : Int))) != 0) = false := by simp only [i64_w]; exact bne_eq_false_iff_eq.mpr c95))
                  clear c95
                  replace H := Option.bind_eq_some_iff.mp H
                  obtain ⟨t275, A960, H⟩ := H
                  replace H : (some t275) = some r := H
                  have A96 := Aside0.mk A960
                  clear A960
                  obtain rfl := Option.some.inj H
                  go_enter Tryd.func4, Tryd.ntmps4
                  go_wp2_with (first | ((with_reducible refine gate_dst (N := 2) rfl ?_); (try (refine gate_guard (by rfl) ?_; dsimp only)); refine box_event ?hg (N := 2) ?hd (cs := #[.slice A0_0 l0_0.length c0_0]) (t := 24) ?hr ?_; (case hd => rfl); (case hg => rfl); (case hr => first | (go_simp; done) | (go_simp; rfl)); intro gb253 hg w97 hbox hb; have n0_ := Aside0.mk (below_step (by repeat (first | (with_reducible first | exact HB.out | apply below_alloc | apply pw_below_drewN | apply below_drew1) | exact HB.out)) hb); have n1_ := Aside0.mk (hbox); have n2_ := Aside0.mk ((by rw [hg]; exact (below_size (by repeat (first | (with_reducible first | exact HB.out | apply below_alloc | apply pw_below_drewN | apply below_drew1) | exact HB.out))) : w.heap.size ≤ gb253)); have n3_ := Aside0.mk ((by rw [hg]; exact (below_size (by repeat (first | (with_reducible first | exact HB.out | apply below_alloc | apply pw_below_drewN | apply below_drew1) | exact HB.out))) : w.heap.size ≤ gb253)); clear HB; have HB := n0_; have BK253 := n1_; have GW253 := n2_; have GE253 := n3_; clear n0_ n1_ n2_ n3_; clear hb hbox hg; have hcz98_0 : w97.cell? ⟨gb253, 0, none⟩ = some (.slice A0_0 l0_0.length c0_0) := (blk_cell BK253.out 0).trans rfl; have hfz98_0 := blk_frozen BK253.out 0) | (go_at_call 10; (with_reducible refine (cavillaw13_Few.calls k (fun k_ => k_ < w.heap.size) _ _ l0_0 t254 _ ?side1 A3.out).mono ?_); (case side1 => exact Kd.V_mk HC0_0.out (Kd.F_below (Kd.C_F k33_heap HR0_0.out) (by repeat (first | (with_reducible first | exact HB.out | apply below_alloc | apply pw_below_drewN | apply below_drew1 | refine below_set ?_ GE253.out) | exact HB.out)))); rintro e w99 ⟨v255, rfl, ho0, hb⟩; have n0_ := Aside0.mk (Kd.N_lower (Kd.N_mono (ok' := fun k_ => k_ ≠ gb253) ho0 (fun k_ hk_ => Or.elim hk_ (fun hs_ => fun e_ => Nat.not_le.2 hs_ (by rw [e_]; exact GW253.out)) (fun hn_ => (Kd.freshB (g := gb253) (o := .cells #[.slice A0_0 l0_0.length c0_0] 24 (0, 0)) (by (with_reducible repeat (first | refine blk_drewN ?_ _ | refine blk_drew ?_ | refine blk_alloc ?_ _)); exact BK253.out) k_ hn_)))) (below_size (by repeat (first | (with_reducible first | exact HB.out | apply below_alloc | apply pw_below_drewN | apply below_drew1 | refine below_set ?_ GE253.out) | exact HB.out)))); have n1_ := Aside0.mk (blk_below (g := gb253) (o := .cells #[.slice A0_0 l0_0.length c0_0] 24 (0, 0)) (by (with_reducible repeat (first | refine blk_drewN ?_ _ | refine blk_drew ?_ | refine blk_alloc ?_ _)); exact BK253.out) hb); have n2_ := Aside0.mk (below_step (by repeat (first | (with_reducible first | exact HB.out | apply below_alloc | apply pw_below_drewN | apply below_drew1 | refine below_set ?_ GE253.out) | exact HB.out)) hb); clear BK253; clear HB; have HO256 := n0_; have BK253 := n1_; have HB := n2_; clear n0_ n1_ n2_; (try clear hb); (try clear hb2); (try clear hk); (try clear hi); (try clear ho0); obtain ⟨Ao100, co100, eo100⟩ := Kd.N_slice HO256.out; subst eo100; have hcz101_0 : w99.cell? ⟨gb253, 0, none⟩ = some (.slice A0_0 l0_0.length c0_0) := (blk_cell BK253.out 0).trans rfl; have hfz101_0 := blk_frozen BK253.out 0) | (go_at_call 17; (with_reducible refine (cavilref13_Sound.calls k _ _ t254 t257 t258 _ ?side1 ?side2 A4.out).mono ?_); (case side1 => refine (Kd.N_reads' (e := 33) (base := w.heap.size) (ok := fun k_ => k_ ≠ gb253) (n := t254.length) (c := co100) ?_).2.2; exact (by (with_reducible repeat (first | apply Kd.N_alloc | apply Kd.N_drewN | apply Kd.N_drew)); exact (Kd.N_mono (Kd.N_far (p := ⟨gb253, 0, none⟩) (Kd.N_mono HO256.out (fun k_ hk => (⟨hk, hk⟩ : _ ∧ k_ ≠ gb253))) (fun _ hk => hk.2) (.slice Ao100 t254.length co100)) (fun _ h_ => h_.1)))); (case side2 => exact (Kd.N_reads' HO256.out).2.1); rintro e w102 ⟨rfl, hb⟩; have n0_ := Aside0.mk (Kd.N_below (by (with_reducible repeat (first | apply Kd.N_alloc | apply Kd.N_drewN | apply Kd.N_drew)); exact (Kd.N_mono (Kd.N_far (p := ⟨gb253, 0, none⟩) (Kd.N_mono HO256.out (fun k_ hk => (⟨hk, hk⟩ : _ ∧ k_ ≠ gb253))) (fun _ hk => hk.2) (.slice Ao100 t254.length co100)) (fun _ h_ => h_.1))) hb); have n1_ := Aside0.mk (blk_below (g := gb253) (o := .cells #[.slice Ao100 t254.length co100] 24 (0, 0)) (by (with_reducible repeat (first | refine blk_drewN ?_ _ | refine blk_drew ?_ | refine blk_alloc ?_ _)); refine blk_put (cs := #[.slice A0_0 l0_0.length c0_0]) ?_ 0 _ rfl; (with_reducible repeat (first | refine blk_drewN ?_ _ | refine blk_drew ?_ | refine blk_alloc ?_ _)); exact BK253.out) hb); have n2_ := Aside0.mk (below_step (by repeat (first | (with_reducible first | exact HB.out | apply below_alloc | apply pw_below_drewN | apply below_drew1 | refine below_set ?_ GE253.out) | exact HB.out)) hb); clear HO256; clear BK253; clear HB; have HO256 := n0_; have BK253 := n1_; have HB := n2_; clear n0_ n1_ n2_; (try clear hb); (try clear hb2); (try clear hk); (try clear hi); have hcz103_0 : w102.cell? ⟨gb253, 0, none⟩ = some (.slice Ao100 t254.length co100) := (blk_cell BK253.out 0).trans rfl; have hfz103_0 := blk_frozen BK253.out 0) | (go_at_call 18; (with_reducible refine (cavillaw13_far.calls _ _ t254 false _ ?side1 ?side2 A5.out).mono ?_); (case side1 => repeat (first | exact (Kd.N_reads' HO256.out).2.2 | (with_reducible refine Kd.C_alloc ?_ _) | (with_reducible refine Kd.C_drewN ?_ _) | (with_reducible refine Kd.C_drew ?_))); (case side2 => exact (Kd.N_reads' HO256.out).2.1); rintro e w104 ⟨rfl, hb⟩; have n0_ := Aside0.mk (Kd.N_below (by (with_reducible repeat (first | apply Kd.N_alloc | apply Kd.N_drewN | apply Kd.N_drew)); exact HO256.out) hb); have n1_ := Aside0.mk (blk_below (g := gb253) (o := .cells #[.slice Ao100 t254.length co100] 24 (0, 0)) (by (with_reducible repeat (first | refine blk_drewN ?_ _ | refine blk_drew ?_ | refine blk_alloc ?_ _)); exact BK253.out) hb); have n2_ := Aside0.mk (below_step (by repeat (first | (with_reducible first | exact HB.out | apply below_alloc | apply pw_below_drewN | apply below_drew1 | refine below_set ?_ GE253.out) | exact HB.out)) hb); clear HO256; clear BK253; clear HB; have HO256 := n0_; have BK253 := n1_; have HB := n2_; clear n0_ n1_ n2_; (try clear hb); (try clear hb2); (try clear hk); (try clear hi); have hcz105_0 : w104.cell? ⟨gb253, 0, none⟩ = some (.slice Ao100 t254.length co100) := (blk_cell BK253.out 0).trans rfl; have hfz105_0 := blk_frozen BK253.out 0) | (go_at_call 19; (with_reducible refine (tree_Depth.calls k _ _ t254 t261 t262 _ ?side1 ?side2 A17.out).mono ?_); (case side1 => repeat (first | exact (Kd.N_reads' HO256.out).2.2 | (with_reducible refine Kd.C_alloc ?_ _) | (with_reducible refine Kd.C_drewN ?_ _) | (with_reducible refine Kd.C_drew ?_))); (case side2 => exact (Kd.N_reads' HO256.out).2.1); rintro e w106 ⟨rfl, hb⟩; have n0_ := Aside0.mk (Kd.N_below (by (with_reducible repeat (first | apply Kd.N_alloc | apply Kd.N_drewN | apply Kd.N_drew)); exact HO256.out) hb); have n1_ := Aside0.mk (blk_below (g := gb253) (o := .cells #[.slice Ao100 t254.length co100] 24 (0, 0)) (by (with_reducible repeat (first | refine blk_drewN ?_ _ | refine blk_drew ?_ | refine blk_alloc ?_ _)); exact BK253.out) hb); have n2_ := Aside0.mk (below_step (by repeat (first | (with_reducible first | exact HB.out | apply below_alloc | apply pw_below_drewN | apply below_drew1 | refine below_set ?_ GE253.out) | exact HB.out)) hb); clear HO256; clear BK253; clear HB; have HO256 := n0_; have BK253 := n1_; have HB := n2_; clear n0_ n1_ n2_; (try clear hb); (try clear hb2); (try clear hk); (try clear hi); (try simp only [errW_none, errW_some, erT_no, erV_no, erT_at, erV_at]); have hcz107_0 : w106.cell? ⟨gb253, 0, none⟩ = some (.slice Ao100 t254.length co100) := (blk_cell BK253.out 0).trans rfl; have hfz107_0 := blk_frozen BK253.out 0) | (go_at_call 20; (with_reducible refine (tree_Parents.calls k _ _ t254 t263 t266 _ ?side1 ?side2 A18.out).mono ?_); (case side1 => repeat (first | exact (Kd.N_reads' HO256.out).2.2 | (with_reducible refine Kd.C_alloc ?_ _) | (with_reducible refine Kd.C_drewN ?_ _) | (with_reducible refine Kd.C_drew ?_))); (case side2 => exact (Kd.N_reads' HO256.out).2.1); rintro e w108 ⟨v264, rfl, ho0, hb⟩; have n0_ := Aside0.mk (Kd.N_elder' (by (with_reducible repeat (first | apply Kd.N_alloc | apply Kd.N_drewN | apply Kd.N_drew)); exact HO256.out) (Kd.R_base ho0) hb); have n1_ := Aside0.mk (Kd.R_lower ho0 (below_size (by repeat (first | (with_reducible first | exact HB.out | apply below_alloc | apply pw_below_drewN | apply below_drew1 | refine below_set ?_ GE253.out) | exact HB.out)))); have n2_ := Aside0.mk (blk_below (g := gb253) (o := .cells #[.slice Ao100 t254.length co100] 24 (0, 0)) (by (with_reducible repeat (first | refine blk_drewN ?_ _ | refine blk_drew ?_ | refine blk_alloc ?_ _)); exact BK253.out) hb); have n3_ := Aside0.mk (below_step (by repeat (first | (with_reducible first | exact HB.out | apply below_alloc | apply pw_below_drewN | apply below_drew1 | refine below_set ?_ GE253.out) | exact HB.out)) hb); clear HO256; clear BK253; clear HB; have HO256 := n0_; have HO265 := n1_; have BK253 := n2_; have HB := n3_; clear n0_ n1_ n2_ n3_; (try clear hb); (try clear hb2); (try clear hk); (try clear hi); (try clear ho0); (try simp only [errW_none, errW_some, erT_no, erV_no, erT_at, erV_at]); have hcz109_0 : w108.cell? ⟨gb253, 0, none⟩ = some (.slice Ao100 t254.length co100) := (blk_cell BK253.out 0).trans rfl; have hfz109_0 := blk_frozen BK253.out 0) | (go_at_call 21; (with_reducible refine (tree_Own.calls k _ _ t254 a1 t267 t270 _ ?side1 ?side2 A19.out).mono ?_); (case side1 => repeat (first | exact (Kd.N_reads' HO256.out).2.2 | (with_reducible refine Kd.C_alloc ?_ _) | (with_reducible refine Kd.C_drewN ?_ _) | (with_reducible refine Kd.C_drew ?_))); (case side2 => exact (Kd.N_reads' HO256.out).2.1); rintro e w110 ⟨v268, rfl, ho0, hb⟩; have n0_ := Aside0.mk (Kd.N_elder' (by (with_reducible repeat (first | apply Kd.N_alloc | apply Kd.N_drewN | apply Kd.N_drew)); exact HO256.out) (Kd.R_base ho0) hb); have n1_ := Aside0.mk (Kd.R_elder' (by (with_reducible repeat (first | apply Kd.R_alloc | apply Kd.R_drewN | apply Kd.R_drew)); exact HO265.out) (Kd.R_base ho0) hb); have n2_ := Aside0.mk (Kd.R_lower (Kd.R_new' ho0 (Kd.R_lt (by (with_reducible repeat (first | apply Kd.R_alloc | apply Kd.R_drewN | apply Kd.R_drew)); exact HO265.out))) (below_size (by repeat (first | (with_reducible first | exact HB.out | apply below_alloc | apply pw_below_drewN | apply below_drew1 | refine below_set ?_ GE253.out) | exact HB.out)))); have n3_ := Aside0.mk (blk_below (g := gb253) (o := .cells #[.slice Ao100 t254.length co100] 24 (0, 0)) (by (with_reducible repeat (first | refine blk_drewN ?_ _ | refine blk_drew ?_ | refine blk_alloc ?_ _)); exact BK253.out) hb); have n4_ := Aside0.mk (below_step (by repeat (first | (with_reducible first | exact HB.out | apply below_alloc | apply pw_below_drewN | apply below_drew1 | refine below_set ?_ GE253.out) | exact HB.out)) hb); clear HO256; clear HO265; clear BK253; clear HB; have HO256 := n0_; have HO265 := n1_; have HO269 := n2_; have BK253 := n3_; have HB := n4_; clear n0_ n1_ n2_ n3_ n4_; (try clear hb); (try clear hb2); (try clear hk); (try clear hi); (try clear ho0); (try simp only [errW_none, errW_some, erT_no, erV_no, erT_at, erV_at]); have CA86 := fun W => cavillaw01_Code.calls k t262 t271 W A86.out; try simp only [errW_none, errW_some, erT_no, erV_no, erT_at, erV_at] at CA86) | (go_at_call 13; (with_reducible refine (CA86 _).mono ?_); rintro e w111 ⟨rfl, hb⟩; have n0_ := Aside0.mk (Kd.N_below (by (with_reducible repeat (first | apply Kd.N_alloc | apply Kd.N_drewN | apply Kd.N_drew)); exact HO256.out) hb); have n1_ := Aside0.mk (Kd.R_below (by (with_reducible repeat (first | apply Kd.R_alloc | apply Kd.R_drewN | apply Kd.R_drew)); exact HO265.out) hb); have n2_ := Aside0.mk (Kd.R_below (by (with_reducible repeat (first | apply Kd.R_alloc | apply Kd.R_drewN | apply Kd.R_drew)); exact HO269.out) hb); have n3_ := Aside0.mk (blk_below (g := gb253) (o := .cells #[.slice Ao100 t254.length co100] 24 (0, 0)) (by (with_reducible repeat (first | refine blk_drewN ?_ _ | refine blk_drew ?_ | refine blk_alloc ?_ _)); exact BK253.out) hb); have n4_ := Aside0.mk (below_step (by repeat (first | (with_reducible first | exact HB.out | apply below_alloc | apply pw_below_drewN | apply below_drew1 | refine below_set ?_ GE253.out) | exact HB.out)) hb); clear HO256; clear HO265; clear HO269; clear BK253; clear HB; have HO256 := n0_; have HO265 := n1_; have HO269 := n2_; have BK253 := n3_; have HB := n4_; clear n0_ n1_ n2_ n3_ n4_; (try clear hb); (try clear hb2); (try clear hk); (try clear hi); have CA88 := fun W hg_ => cavillaw01_Off.calls t262 t272 W hg_ A88.out; try simp only [errW_none, errW_some, erT_no, erV_no, erT_at, erV_at] at CA88) | (go_at_call 14; (with_reducible refine (CA88 _ ?sideg).mono ?_); (case sideg => repeat (first | exact (GL_below HG.out HB.out) | exact HG.out | (with_reducible refine GL_alloc ?_ _) | (with_reducible refine GL_drewN ?_ _) | (with_reducible refine GL_drew ?_))); rintro e w112 ⟨rfl, hb⟩; have n0_ := Aside0.mk (Kd.N_below (by (with_reducible repeat (first | apply Kd.N_alloc | apply Kd.N_drewN | apply Kd.N_drew)); exact HO256.out) hb); have n1_ := Aside0.mk (Kd.R_below (by (with_reducible repeat (first | apply Kd.R_alloc | apply Kd.R_drewN | apply Kd.R_drew)); exact HO265.out) hb); have n2_ := Aside0.mk (Kd.R_below (by (with_reducible repeat (first | apply Kd.R_alloc | apply Kd.R_drewN | apply Kd.R_drew)); exact HO269.out) hb); have n3_ := Aside0.mk (blk_below (g := gb253) (o := .cells #[.slice Ao100 t254.length co100] 24 (0, 0)) (by (with_reducible repeat (first | refine blk_drewN ?_ _ | refine blk_drew ?_ | refine blk_alloc ?_ _)); exact BK253.out) hb); have n4_ := Aside0.mk (below_step (by repeat (first | (with_reducible first | exact HB.out | apply below_alloc | apply pw_below_drewN | apply below_drew1 | refine below_set ?_ GE253.out) | exact HB.out)) hb); clear HO256; clear HO265; clear HO269; clear BK253; clear HB; have HO256 := n0_; have HO265 := n1_; have HO269 := n2_; have BK253 := n3_; have HB := n4_; clear n0_ n1_ n2_ n3_ n4_; (try clear hb); (try clear hb2); (try clear hk); (try clear hi); have CA90 := fun W => cavillaw01_Code.calls k t266 t273 W A90.out; try simp only [errW_none, errW_some, erT_no, erV_no, erT_at, erV_at] at CA90) | (go_at_call 13; (with_reducible refine (CA90 _).mono ?_); rintro e w113 ⟨rfl, hb⟩; have n0_ := Aside0.mk (Kd.N_below (by (with_reducible repeat (first | apply Kd.N_alloc | apply Kd.N_drewN | apply Kd.N_drew)); exact HO256.out) hb); have n1_ := Aside0.mk (Kd.R_below (by (with_reducible repeat (first | apply Kd.R_alloc | apply Kd.R_drewN | apply Kd.R_drew)); exact HO265.out) hb); have n2_ := Aside0.mk (Kd.R_below (by (with_reducible repeat (first | apply Kd.R_alloc | apply Kd.R_drewN | apply Kd.R_drew)); exact HO269.out) hb); have n3_ := Aside0.mk (blk_below (g := gb253) (o := .cells #[.slice Ao100 t254.length co100] 24 (0, 0)) (by (with_reducible repeat (first | refine blk_drewN ?_ _ | refine blk_drew ?_ | refine blk_alloc ?_ _)); exact BK253.out) hb); have n4_ := Aside0.mk (below_step (by repeat (first | (with_reducible first | exact HB.out | apply below_alloc | apply pw_below_drewN | apply below_drew1 | refine below_set ?_ GE253.out) | exact HB.out)) hb); clear HO256; clear HO265; clear HO269; clear BK253; clear HB; have HO256 := n0_; have HO265 := n1_; have HO269 := n2_; have BK253 := n3_; have HB := n4_; clear n0_ n1_ n2_ n3_ n4_; (try clear hb); (try clear hb2); (try clear hk); (try clear hi); have CA92 := fun W => cavillaw01_Code.calls k t270 t274 W A92.out; try simp only [errW_none, errW_some, erT_no, erV_no, erT_at, erV_at] at CA92) | (go_at_call 13; (with_reducible refine (CA92 _).mono ?_); rintro e w114 ⟨rfl, hb⟩; have n0_ := Aside0.mk (Kd.N_below (by (with_reducible repeat (first | apply Kd.N_alloc | apply Kd.N_drewN | apply Kd.N_drew)); exact HO256.out) hb); have n1_ := Aside0.mk (Kd.R_below (by (with_reducible repeat (first | apply Kd.R_alloc | apply Kd.R_drewN | apply Kd.R_drew)); exact HO265.out) hb); have n2_ := Aside0.mk (Kd.R_below (by (with_reducible repeat (first | apply Kd.R_alloc | apply Kd.R_drewN | apply Kd.R_drew)); exact HO269.out) hb); have n3_ := Aside0.mk (blk_below (g := gb253) (o := .cells #[.slice Ao100 t254.length co100] 24 (0, 0)) (by (with_reducible repeat (first | refine blk_drewN ?_ _ | refine blk_drew ?_ | refine blk_alloc ?_ _)); exact BK253.out) hb); have n4_ := Aside0.mk (below_step (by repeat (first | (with_reducible first | exact HB.out | apply below_alloc | apply pw_below_drewN | apply below_drew1 | refine below_set ?_ GE253.out) | exact HB.out)) hb); clear HO256; clear HO265; clear HO269; clear BK253; clear HB; have HO256 := n0_; have HO265 := n1_; have HO269 := n2_; have BK253 := n3_; have HB := n4_; clear n0_ n1_ n2_ n3_ n4_; (try clear hb); (try clear hb2); (try clear hk); (try clear hi); obtain ⟨Ao115, co115, eo115⟩ := Kd.R_slice HO265.out; subst eo115; obtain ⟨Ao116, co116, eo116⟩ := Kd.R_slice HO269.out; subst eo116) | (go_at_call 16; (with_reducible refine (cavillaw13_works.calls k  t275 _ A96.out).mono ?_); rintro e w117 ⟨rfl, hb⟩; have n0_ := Aside0.mk (Kd.N_below (by (with_reducible repeat (first | apply Kd.N_alloc | apply Kd.N_drewN | apply Kd.N_drew)); exact HO256.out) hb); have n1_ := Aside0.mk (Kd.R_below (by (with_reducible repeat (first | apply Kd.R_alloc | apply Kd.R_drewN | apply Kd.R_drew)); exact HO265.out) hb); have n2_ := Aside0.mk (Kd.R_below (by (with_reducible repeat (first | apply Kd.R_alloc | apply Kd.R_drewN | apply Kd.R_drew)); exact HO269.out) hb); have n3_ := Aside0.mk (blk_below (g := gb253) (o := .cells #[.slice Ao100 t254.length co100] 24 (0, 0)) (by (with_reducible repeat (first | refine blk_drewN ?_ _ | refine blk_drew ?_ | refine blk_alloc ?_ _)); exact BK253.out) hb); have n4_ := Aside0.mk (below_step (by repeat (first | (with_reducible first | exact HB.out | apply below_alloc | apply pw_below_drewN | apply below_drew1 | refine below_set ?_ GE253.out) | exact HB.out)) hb); clear HO256; clear HO265; clear HO269; clear BK253; clear HB; have HO256 := n0_; have HO265 := n1_; have HO269 := n2_; have BK253 := n3_; have HB := n4_; clear n0_ n1_ n2_ n3_ n4_; (try clear hb); (try clear hb2); (try clear hk); (try clear hi)))
                  go_ret
                  exact ⟨by first | rfl | (simp [errW_none, errW_some, erT_no, erV_no, erT_at, erV_at] <;> rfl) | (simp [*, errW_none, errW_some, erT_no, erV_no, erT_at, erV_at] <;> rfl), by repeat (first | (with_reducible first | exact HB.out | apply below_alloc | apply pw_below_drewN | apply below_drew1 | refine below_set ?_ GE253.out) | exact HB.out)⟩
                · rw [if_neg c95] at H
                  have c95b0 : ((wrap64 ((t263.length : Int) + (t267.length : Int))) == 0) = false := beq_eq_false_iff_ne.mpr c95
                  have c95b1 : ((wrap64 ((t263.length : Int) + (t267.length : Int))) != 0) = true := bne_iff_ne.mpr c95
                  (try (have c95b2 : ((IntKind.i64.wrap ((t263.length : Int) + (t267.length : Int))) == 0) = false := by simp only [i64_w]; exact beq_eq_false_iff_ne.mpr c95))
                  (try (have c95b3 : ((IntKind.i64.wrap ((t263.length : Int) + (t267.length : Int))) != 0) = true := by simp only [i64_w]; exact bne_iff_ne.mpr c95))
                  obtain rfl := Option.some.inj H
                  go_enter Tryd.func4, Tryd.ntmps4
                  go_wp2_with (first | ((with_reducible refine gate_dst (N := 2) rfl ?_); (try (refine gate_guard (by rfl) ?_; dsimp only)); refine box_event ?hg (N := 2) ?hd (cs := #[.slice A0_0 l0_0.length c0_0]) (t := 24) ?hr ?_; (case hd => rfl); (case hg => rfl); (case hr => first | (go_simp; done) | (go_simp; rfl)); intro gb253 hg w118 hbox hb; have n0_ := Aside0.mk (below_step (by repeat (first | (with_reducible first | exact HB.out | apply below_alloc | apply pw_below_drewN | apply below_drew1) | exact HB.out)) hb); have n1_ := Aside0.mk (hbox); have n2_ := Aside0.mk ((by rw [hg]; exact (below_size (by repeat (first | (with_reducible first | exact HB.out | apply below_alloc | apply pw_below_drewN | apply below_drew1) | exact HB.out))) : w.heap.size ≤ gb253)); have n3_ := Aside0.mk ((by rw [hg]; exact (below_size (by repeat (first | (with_reducible first | exact HB.out | apply below_alloc | apply pw_below_drewN | apply below_drew1) | exact HB.out))) : w.heap.size ≤ gb253)); clear HB; have HB := n0_; have BK253 := n1_; have GW253 := n2_; have GE253 := n3_; clear n0_ n1_ n2_ n3_; clear hb hbox hg; have hcz119_0 : w118.cell? ⟨gb253, 0, none⟩ = some (.slice A0_0 l0_0.length c0_0) := (blk_cell BK253.out 0).trans rfl; have hfz119_0 := blk_frozen BK253.out 0) | (go_at_call 10; (with_reducible refine (cavillaw13_Few.calls k (fun k_ => k_ < w.heap.size) _ _ l0_0 t254 _ ?side1 A3.out).mono ?_); (case side1 => exact Kd.V_mk HC0_0.out (Kd.F_below (Kd.C_F k33_heap HR0_0.out) (by repeat (first | (with_reducible first | exact HB.out | apply below_alloc | apply pw_below_drewN | apply below_drew1 | refine below_set ?_ GE253.out) | exact HB.out)))); rintro e w120 ⟨v255, rfl, ho0, hb⟩; have n0_ := Aside0.mk (Kd.N_lower (Kd.N_mono (ok' := fun k_ => k_ ≠ gb253) ho0 (fun k_ hk_ => Or.elim hk_ (fun hs_ => fun e_ => Nat.not_le.2 hs_ (by rw [e_]; exact GW253.out)) (fun hn_ => (Kd.freshB (g := gb253) (o := .cells #[.slice A0_0 l0_0.length c0_0] 24 (0, 0)) (by (with_reducible repeat (first | refine blk_drewN ?_ _ | refine blk_drew ?_ | refine blk_alloc ?_ _)); exact BK253.out) k_ hn_)))) (below_size (by repeat (first | (with_reducible first | exact HB.out | apply below_alloc | apply pw_below_drewN | apply below_drew1 | refine below_set ?_ GE253.out) | exact HB.out)))); have n1_ := Aside0.mk (blk_below (g := gb253) (o := .cells #[.slice A0_0 l0_0.length c0_0] 24 (0, 0)) (by (with_reducible repeat (first | refine blk_drewN ?_ _ | refine blk_drew ?_ | refine blk_alloc ?_ _)); exact BK253.out) hb); have n2_ := Aside0.mk (below_step (by repeat (first | (with_reducible first | exact HB.out | apply below_alloc | apply pw_below_drewN | apply below_drew1 | refine below_set ?_ GE253.out) | exact HB.out)) hb); clear BK253; clear HB; have HO256 := n0_; have BK253 := n1_; have HB := n2_; clear n0_ n1_ n2_; (try clear hb); (try clear hb2); (try clear hk); (try clear hi); (try clear ho0); obtain ⟨Ao121, co121, eo121⟩ := Kd.N_slice HO256.out; subst eo121; have hcz122_0 : w120.cell? ⟨gb253, 0, none⟩ = some (.slice A0_0 l0_0.length c0_0) := (blk_cell BK253.out 0).trans rfl; have hfz122_0 := blk_frozen BK253.out 0) | (go_at_call 17; (with_reducible refine (cavilref13_Sound.calls k _ _ t254 t257 t258 _ ?side1 ?side2 A4.out).mono ?_); (case side1 => refine (Kd.N_reads' (e := 33) (base := w.heap.size) (ok := fun k_ => k_ ≠ gb253) (n := t254.length) (c := co121) ?_).2.2; exact (by (with_reducible repeat (first | apply Kd.N_alloc | apply Kd.N_drewN | apply Kd.N_drew)); exact (Kd.N_mono (Kd.N_far (p := ⟨gb253, 0, none⟩) (Kd.N_mono HO256.out (fun k_ hk => (⟨hk, hk⟩ : _ ∧ k_ ≠ gb253))) (fun _ hk => hk.2) (.slice Ao121 t254.length co121)) (fun _ h_ => h_.1)))); (case side2 => exact (Kd.N_reads' HO256.out).2.1); rintro e w123 ⟨rfl, hb⟩; have n0_ := Aside0.mk (Kd.N_below (by (with_reducible repeat (first | apply Kd.N_alloc | apply Kd.N_drewN | apply Kd.N_drew)); exact (Kd.N_mono (Kd.N_far (p := ⟨gb253, 0, none⟩) (Kd.N_mono HO256.out (fun k_ hk => (⟨hk, hk⟩ : _ ∧ k_ ≠ gb253))) (fun _ hk => hk.2) (.slice Ao121 t254.length co121)) (fun _ h_ => h_.1))) hb); have n1_ := Aside0.mk (blk_below (g := gb253) (o := .cells #[.slice Ao121 t254.length co121] 24 (0, 0)) (by (with_reducible repeat (first | refine blk_drewN ?_ _ | refine blk_drew ?_ | refine blk_alloc ?_ _)); refine blk_put (cs := #[.slice A0_0 l0_0.length c0_0]) ?_ 0 _ rfl; (with_reducible repeat (first | refine blk_drewN ?_ _ | refine blk_drew ?_ | refine blk_alloc ?_ _)); exact BK253.out) hb); have n2_ := Aside0.mk (below_step (by repeat (first | (with_reducible first | exact HB.out | apply below_alloc | apply pw_below_drewN | apply below_drew1 | refine below_set ?_ GE253.out) | exact HB.out)) hb); clear HO256; clear BK253; clear HB; have HO256 := n0_; have BK253 := n1_; have HB := n2_; clear n0_ n1_ n2_; (try clear hb); (try clear hb2); (try clear hk); (try clear hi); have hcz124_0 : w123.cell? ⟨gb253, 0, none⟩ = some (.slice Ao121 t254.length co121) := (blk_cell BK253.out 0).trans rfl; have hfz124_0 := blk_frozen BK253.out 0) | (go_at_call 18; (with_reducible refine (cavillaw13_far.calls _ _ t254 false _ ?side1 ?side2 A5.out).mono ?_); (case side1 => repeat (first | exact (Kd.N_reads' HO256.out).2.2 | (with_reducible refine Kd.C_alloc ?_ _) | (with_reducible refine Kd.C_drewN ?_ _) | (with_reducible refine Kd.C_drew ?_))); (case side2 => exact (Kd.N_reads' HO256.out).2.1); rintro e w125 ⟨rfl, hb⟩; have n0_ := Aside0.mk (Kd.N_below (by (with_reducible repeat (first | apply Kd.N_alloc | apply Kd.N_drewN | apply Kd.N_drew)); exact HO256.out) hb); have n1_ := Aside0.mk (blk_below (g := gb253) (o := .cells #[.slice Ao121 t254.length co121] 24 (0, 0)) (by (with_reducible repeat (first | refine blk_drewN ?_ _ | refine blk_drew ?_ | refine blk_alloc ?_ _)); exact BK253.out) hb); have n2_ := Aside0.mk (below_step (by repeat (first | (with_reducible first | exact HB.out | apply below_alloc | apply pw_below_drewN | apply below_drew1 | refine below_set ?_ GE253.out) | exact HB.out)) hb); clear HO256; clear BK253; clear HB; have HO256 := n0_; have BK253 := n1_; have HB := n2_; clear n0_ n1_ n2_; (try clear hb); (try clear hb2); (try clear hk); (try clear hi); have hcz126_0 : w125.cell? ⟨gb253, 0, none⟩ = some (.slice Ao121 t254.length co121) := (blk_cell BK253.out 0).trans rfl; have hfz126_0 := blk_frozen BK253.out 0) | (go_at_call 19; (with_reducible refine (tree_Depth.calls k _ _ t254 t261 t262 _ ?side1 ?side2 A17.out).mono ?_); (case side1 => repeat (first | exact (Kd.N_reads' HO256.out).2.2 | (with_reducible refine Kd.C_alloc ?_ _) | (with_reducible refine Kd.C_drewN ?_ _) | (with_reducible refine Kd.C_drew ?_))); (case side2 => exact (Kd.N_reads' HO256.out).2.1); rintro e w127 ⟨rfl, hb⟩; have n0_ := Aside0.mk (Kd.N_below (by (with_reducible repeat (first | apply Kd.N_alloc | apply Kd.N_drewN | apply Kd.N_drew)); exact HO256.out) hb); have n1_ := Aside0.mk (blk_below (g := gb253) (o := .cells #[.slice Ao121 t254.length co121] 24 (0, 0)) (by (with_reducible repeat (first | refine blk_drewN ?_ _ | refine blk_drew ?_ | refine blk_alloc ?_ _)); exact BK253.out) hb); have n2_ := Aside0.mk (below_step (by repeat (first | (with_reducible first | exact HB.out | apply below_alloc | apply pw_below_drewN | apply below_drew1 | refine below_set ?_ GE253.out) | exact HB.out)) hb); clear HO256; clear BK253; clear HB; have HO256 := n0_; have BK253 := n1_; have HB := n2_; clear n0_ n1_ n2_; (try clear hb); (try clear hb2); (try clear hk); (try clear hi); (try simp only [errW_none, errW_some, erT_no, erV_no, erT_at, erV_at]); have hcz128_0 : w127.cell? ⟨gb253, 0, none⟩ = some (.slice Ao121 t254.length co121) := (blk_cell BK253.out 0).trans rfl; have hfz128_0 := blk_frozen BK253.out 0) | (go_at_call 20; (with_reducible refine (tree_Parents.calls k _ _ t254 t263 t266 _ ?side1 ?side2 A18.out).mono ?_); (case side1 => repeat (first | exact (Kd.N_reads' HO256.out).2.2 | (with_reducible refine Kd.C_alloc ?_ _) | (with_reducible refine Kd.C_drewN ?_ _) | (with_reducible refine Kd.C_drew ?_))); (case side2 => exact (Kd.N_reads' HO256.out).2.1); rintro e w129 ⟨v264, rfl, ho0, hb⟩; have n0_ := Aside0.mk (Kd.N_elder' (by (with_reducible repeat (first | apply Kd.N_alloc | apply Kd.N_drewN | apply Kd.N_drew)); exact HO256.out) (Kd.R_base ho0) hb); have n1_ := Aside0.mk (Kd.R_lower ho0 (below_size (by repeat (first | (with_reducible first | exact HB.out | apply below_alloc | apply pw_below_drewN | apply below_drew1 | refine below_set ?_ GE253.out) | exact HB.out)))); have n2_ := Aside0.mk (blk_below (g := gb253) (o := .cells #[.slice Ao121 t254.length co121] 24 (0, 0)) (by (with_reducible repeat (first | refine blk_drewN ?_ _ | refine blk_drew ?_ | refine blk_alloc ?_ _)); exact BK253.out) hb); have n3_ := Aside0.mk (below_step (by repeat (first | (with_reducible first | exact HB.out | apply below_alloc | apply pw_below_drewN | apply below_drew1 | refine below_set ?_ GE253.out) | exact HB.out)) hb); clear HO256; clear BK253; clear HB; have HO256 := n0_; have HO265 := n1_; have BK253 := n2_; have HB := n3_; clear n0_ n1_ n2_ n3_; (try clear hb); (try clear hb2); (try clear hk); (try clear hi); (try clear ho0); (try simp only [errW_none, errW_some, erT_no, erV_no, erT_at, erV_at]); have hcz130_0 : w129.cell? ⟨gb253, 0, none⟩ = some (.slice Ao121 t254.length co121) := (blk_cell BK253.out 0).trans rfl; have hfz130_0 := blk_frozen BK253.out 0) | (go_at_call 21; (with_reducible refine (tree_Own.calls k _ _ t254 a1 t267 t270 _ ?side1 ?side2 A19.out).mono ?_); (case side1 => repeat (first | exact (Kd.N_reads' HO256.out).2.2 | (with_reducible refine Kd.C_alloc ?_ _) | (with_reducible refine Kd.C_drewN ?_ _) | (with_reducible refine Kd.C_drew ?_))); (case side2 => exact (Kd.N_reads' HO256.out).2.1); rintro e w131 ⟨v268, rfl, ho0, hb⟩; have n0_ := Aside0.mk (Kd.N_elder' (by (with_reducible repeat (first | apply Kd.N_alloc | apply Kd.N_drewN | apply Kd.N_drew)); exact HO256.out) (Kd.R_base ho0) hb); have n1_ := Aside0.mk (Kd.R_elder' (by (with_reducible repeat (first | apply Kd.R_alloc | apply Kd.R_drewN | apply Kd.R_drew)); exact HO265.out) (Kd.R_base ho0) hb); have n2_ := Aside0.mk (Kd.R_lower (Kd.R_new' ho0 (Kd.R_lt (by (with_reducible repeat (first | apply Kd.R_alloc | apply Kd.R_drewN | apply Kd.R_drew)); exact HO265.out))) (below_size (by repeat (first | (with_reducible first | exact HB.out | apply below_alloc | apply pw_below_drewN | apply below_drew1 | refine below_set ?_ GE253.out) | exact HB.out)))); have n3_ := Aside0.mk (blk_below (g := gb253) (o := .cells #[.slice Ao121 t254.length co121] 24 (0, 0)) (by (with_reducible repeat (first | refine blk_drewN ?_ _ | refine blk_drew ?_ | refine blk_alloc ?_ _)); exact BK253.out) hb); have n4_ := Aside0.mk (below_step (by repeat (first | (with_reducible first | exact HB.out | apply below_alloc | apply pw_below_drewN | apply below_drew1 | refine below_set ?_ GE253.out) | exact HB.out)) hb); clear HO256; clear HO265; clear BK253; clear HB; have HO256 := n0_; have HO265 := n1_; have HO269 := n2_; have BK253 := n3_; have HB := n4_; clear n0_ n1_ n2_ n3_ n4_; (try clear hb); (try clear hb2); (try clear hk); (try clear hi); (try clear ho0); (try simp only [errW_none, errW_some, erT_no, erV_no, erT_at, erV_at]); have CA86 := fun W => cavillaw01_Code.calls k t262 t271 W A86.out; try simp only [errW_none, errW_some, erT_no, erV_no, erT_at, erV_at] at CA86) | (go_at_call 13; (with_reducible refine (CA86 _).mono ?_); rintro e w132 ⟨rfl, hb⟩; have n0_ := Aside0.mk (Kd.N_below (by (with_reducible repeat (first | apply Kd.N_alloc | apply Kd.N_drewN | apply Kd.N_drew)); exact HO256.out) hb); have n1_ := Aside0.mk (Kd.R_below (by (with_reducible repeat (first | apply Kd.R_alloc | apply Kd.R_drewN | apply Kd.R_drew)); exact HO265.out) hb); have n2_ := Aside0.mk (Kd.R_below (by (with_reducible repeat (first | apply Kd.R_alloc | apply Kd.R_drewN | apply Kd.R_drew)); exact HO269.out) hb); have n3_ := Aside0.mk (blk_below (g := gb253) (o := .cells #[.slice Ao121 t254.length co121] 24 (0, 0)) (by (with_reducible repeat (first | refine blk_drewN ?_ _ | refine blk_drew ?_ | refine blk_alloc ?_ _)); exact BK253.out) hb); have n4_ := Aside0.mk (below_step (by repeat (first | (with_reducible first | exact HB.out | apply below_alloc | apply pw_below_drewN | apply below_drew1 | refine below_set ?_ GE253.out) | exact HB.out)) hb); clear HO256; clear HO265; clear HO269; clear BK253; clear HB; have HO256 := n0_; have HO265 := n1_; have HO269 := n2_; have BK253 := n3_; have HB := n4_; clear n0_ n1_ n2_ n3_ n4_; (try clear hb); (try clear hb2); (try clear hk); (try clear hi); have CA88 := fun W hg_ => cavillaw01_Off.calls t262 t272 W hg_ A88.out; try simp only [errW_none, errW_some, erT_no, erV_no, erT_at, erV_at] at CA88) | (go_at_call 14; (with_reducible refine (CA88 _ ?sideg).mono ?_); (case sideg => repeat (first | exact (GL_below HG.out HB.out) | exact HG.out | (with_reducible refine GL_alloc ?_ _) | (with_reducible refine GL_drewN ?_ _) | (with_reducible refine GL_drew ?_))); rintro e w133 ⟨rfl, hb⟩; have n0_ := Aside0.mk (Kd.N_below (by (with_reducible repeat (first | apply Kd.N_alloc | apply Kd.N_drewN | apply Kd.N_drew)); exact HO256.out) hb); have n1_ := Aside0.mk (Kd.R_below (by (with_reducible repeat (first | apply Kd.R_alloc | apply Kd.R_drewN | apply Kd.R_drew)); exact HO265.out) hb); have n2_ := Aside0.mk (Kd.R_below (by (with_reducible repeat (first | apply Kd.R_alloc | apply Kd.R_drewN | apply Kd.R_drew)); exact HO269.out) hb); have n3_ := Aside0.mk (blk_below (g := gb253) (o := .cells #[.slice Ao121 t254.length co121] 24 (0, 0)) (by (with_reducible repeat (first | refine blk_drewN ?_ _ | refine blk_drew ?_ | refine blk_alloc ?_ _)); exact BK253.out) hb); have n4_ := Aside0.mk (below_step (by repeat (first | (with_reducible first | exact HB.out | apply below_alloc | apply pw_below_drewN | apply below_drew1 | refine below_set ?_ GE253.out) | exact HB.out)) hb); clear HO256; clear HO265; clear HO269; clear BK253; clear HB; have HO256 := n0_; have HO265 := n1_; have HO269 := n2_; have BK253 := n3_; have HB := n4_; clear n0_ n1_ n2_ n3_ n4_; (try clear hb); (try clear hb2); (try clear hk); (try clear hi); have CA90 := fun W => cavillaw01_Code.calls k t266 t273 W A90.out; try simp only [errW_none, errW_some, erT_no, erV_no, erT_at, erV_at] at CA90) | (go_at_call 13; (with_reducible refine (CA90 _).mono ?_); rintro e w134 ⟨rfl, hb⟩; have n0_ := Aside0.mk (Kd.N_below (by (with_reducible repeat (first | apply Kd.N_alloc | apply Kd.N_drewN | apply Kd.N_drew)); exact HO256.out) hb); have n1_ := Aside0.mk (Kd.R_below (by (with_reducible repeat (first | apply Kd.R_alloc | apply Kd.R_drewN | apply Kd.R_drew)); exact HO265.out) hb); have n2_ := Aside0.mk (Kd.R_below (by (with_reducible repeat (first | apply Kd.R_alloc | apply Kd.R_drewN | apply Kd.R_drew)); exact HO269.out) hb); have n3_ := Aside0.mk (blk_below (g := gb253) (o := .cells #[.slice Ao121 t254.length co121] 24 (0, 0)) (by (with_reducible repeat (first | refine blk_drewN ?_ _ | refine blk_drew ?_ | refine blk_alloc ?_ _)); exact BK253.out) hb); have n4_ := Aside0.mk (below_step (by repeat (first | (with_reducible first | exact HB.out | apply below_alloc | apply pw_below_drewN | apply below_drew1 | refine below_set ?_ GE253.out) | exact HB.out)) hb); clear HO256; clear HO265; clear HO269; clear BK253; clear HB; have HO256 := n0_; have HO265 := n1_; have HO269 := n2_; have BK253 := n3_; have HB := n4_; clear n0_ n1_ n2_ n3_ n4_; (try clear hb); (try clear hb2); (try clear hk); (try clear hi); have CA92 := fun W => cavillaw01_Code.calls k t270 t274 W A92.out; try simp only [errW_none, errW_some, erT_no, erV_no, erT_at, erV_at] at CA92) | (go_at_call 13; (with_reducible refine (CA92 _).mono ?_); rintro e w135 ⟨rfl, hb⟩; have n0_ := Aside0.mk (Kd.N_below (by (with_reducible repeat (first | apply Kd.N_alloc | apply Kd.N_drewN | apply Kd.N_drew)); exact HO256.out) hb); have n1_ := Aside0.mk (Kd.R_below (by (with_reducible repeat (first | apply Kd.R_alloc | apply Kd.R_drewN | apply Kd.R_drew)); exact HO265.out) hb); have n2_ := Aside0.mk (Kd.R_below (by (with_reducible repeat (first | apply Kd.R_alloc | apply Kd.R_drewN | apply Kd.R_drew)); exact HO269.out) hb); have n3_ := Aside0.mk (blk_below (g := gb253) (o := .cells #[.slice Ao121 t254.length co121] 24 (0, 0)) (by (with_reducible repeat (first | refine blk_drewN ?_ _ | refine blk_drew ?_ | refine blk_alloc ?_ _)); exact BK253.out) hb); have n4_ := Aside0.mk (below_step (by repeat (first | (with_reducible first | exact HB.out | apply below_alloc | apply pw_below_drewN | apply below_drew1 | refine below_set ?_ GE253.out) | exact HB.out)) hb); clear HO256; clear HO265; clear HO269; clear BK253; clear HB; have HO256 := n0_; have HO265 := n1_; have HO269 := n2_; have BK253 := n3_; have HB := n4_; clear n0_ n1_ n2_ n3_ n4_; (try clear hb); (try clear hb2); (try clear hk); (try clear hi); obtain ⟨Ao136, co136, eo136⟩ := Kd.R_slice HO265.out; subst eo136; obtain ⟨Ao137, co137, eo137⟩ := Kd.R_slice HO269.out; subst eo137))
                  go_ret
                  exact ⟨by first | rfl | (simp [errW_none, errW_some, erT_no, erV_no, erT_at, erV_at] <;> rfl) | (simp [*, errW_none, errW_some, erT_no, erV_no, erT_at, erV_at] <;> rfl), by repeat (first | (with_reducible first | exact HB.out | apply below_alloc | apply pw_below_drewN | apply below_drew1 | refine below_set ?_ GE253.out) | exact HB.out)⟩
              · rw [if_neg c94] at H
                have c94b0 : (t261 == 0) = false := beq_eq_false_iff_ne.mpr c94
                have c94b1 : (t261 != 0) = true := bne_iff_ne.mpr c94
                obtain rfl := Option.some.inj H
                go_enter Tryd.func4, Tryd.ntmps4
                go_wp2_with (first | ((with_reducible refine gate_dst (N := 2) rfl ?_); (try (refine gate_guard (by rfl) ?_; dsimp only)); refine box_event ?hg (N := 2) ?hd (cs := #[.slice A0_0 l0_0.length c0_0]) (t := 24) ?hr ?_; (case hd => rfl); (case hg => rfl); (case hr => first | (go_simp; done) | (go_simp; rfl)); intro gb253 hg w138 hbox hb; have n0_ := Aside0.mk (below_step (by repeat (first | (with_reducible first | exact HB.out | apply below_alloc | apply pw_below_drewN | apply below_drew1) | exact HB.out)) hb); have n1_ := Aside0.mk (hbox); have n2_ := Aside0.mk ((by rw [hg]; exact (below_size (by repeat (first | (with_reducible first | exact HB.out | apply below_alloc | apply pw_below_drewN | apply below_drew1) | exact HB.out))) : w.heap.size ≤ gb253)); have n3_ := Aside0.mk ((by rw [hg]; exact (below_size (by repeat (first | (with_reducible first | exact HB.out | apply below_alloc | apply pw_below_drewN | apply below_drew1) | exact HB.out))) : w.heap.size ≤ gb253)); clear HB; have HB := n0_; have BK253 := n1_; have GW253 := n2_; have GE253 := n3_; clear n0_ n1_ n2_ n3_; clear hb hbox hg; have hcz139_0 : w138.cell? ⟨gb253, 0, none⟩ = some (.slice A0_0 l0_0.length c0_0) := (blk_cell BK253.out 0).trans rfl; have hfz139_0 := blk_frozen BK253.out 0) | (go_at_call 10; (with_reducible refine (cavillaw13_Few.calls k (fun k_ => k_ < w.heap.size) _ _ l0_0 t254 _ ?side1 A3.out).mono ?_); (case side1 => exact Kd.V_mk HC0_0.out (Kd.F_below (Kd.C_F k33_heap HR0_0.out) (by repeat (first | (with_reducible first | exact HB.out | apply below_alloc | apply pw_below_drewN | apply below_drew1 | refine below_set ?_ GE253.out) | exact HB.out)))); rintro e w140 ⟨v255, rfl, ho0, hb⟩; have n0_ := Aside0.mk (Kd.N_lower (Kd.N_mono (ok' := fun k_ => k_ ≠ gb253) ho0 (fun k_ hk_ => Or.elim hk_ (fun hs_ => fun e_ => Nat.not_le.2 hs_ (by rw [e_]; exact GW253.out)) (fun hn_ => (Kd.freshB (g := gb253) (o := .cells #[.slice A0_0 l0_0.length c0_0] 24 (0, 0)) (by (with_reducible repeat (first | refine blk_drewN ?_ _ | refine blk_drew ?_ | refine blk_alloc ?_ _)); exact BK253.out) k_ hn_)))) (below_size (by repeat (first | (with_reducible first | exact HB.out | apply below_alloc | apply pw_below_drewN | apply below_drew1 | refine below_set ?_ GE253.out) | exact HB.out)))); have n1_ := Aside0.mk (blk_below (g := gb253) (o := .cells #[.slice A0_0 l0_0.length c0_0] 24 (0, 0)) (by (with_reducible repeat (first | refine blk_drewN ?_ _ | refine blk_drew ?_ | refine blk_alloc ?_ _)); exact BK253.out) hb); have n2_ := Aside0.mk (below_step (by repeat (first | (with_reducible first | exact HB.out | apply below_alloc | apply pw_below_drewN | apply below_drew1 | refine below_set ?_ GE253.out) | exact HB.out)) hb); clear BK253; clear HB; have HO256 := n0_; have BK253 := n1_; have HB := n2_; clear n0_ n1_ n2_; (try clear hb); (try clear hb2); (try clear hk); (try clear hi); (try clear ho0); obtain ⟨Ao141, co141, eo141⟩ := Kd.N_slice HO256.out; subst eo141; have hcz142_0 : w140.cell? ⟨gb253, 0, none⟩ = some (.slice A0_0 l0_0.length c0_0) := (blk_cell BK253.out 0).trans rfl; have hfz142_0 := blk_frozen BK253.out 0) | (go_at_call 17; (with_reducible refine (cavilref13_Sound.calls k _ _ t254 t257 t258 _ ?side1 ?side2 A4.out).mono ?_); (case side1 => refine (Kd.N_reads' (e := 33) (base := w.heap.size) (ok := fun k_ => k_ ≠ gb253) (n := t254.length) (c := co141) ?_).2.2; exact (by (with_reducible repeat (first | apply Kd.N_alloc | apply Kd.N_drewN | apply Kd.N_drew)); exact (Kd.N_mono (Kd.N_far (p := ⟨gb253, 0, none⟩) (Kd.N_mono HO256.out (fun k_ hk => (⟨hk, hk⟩ : _ ∧ k_ ≠ gb253))) (fun _ hk => hk.2) (.slice Ao141 t254.length co141)) (fun _ h_ => h_.1)))); (case side2 => exact (Kd.N_reads' HO256.out).2.1); rintro e w143 ⟨rfl, hb⟩; have n0_ := Aside0.mk (Kd.N_below (by (with_reducible repeat (first | apply Kd.N_alloc | apply Kd.N_drewN | apply Kd.N_drew)); exact (Kd.N_mono (Kd.N_far (p := ⟨gb253, 0, none⟩) (Kd.N_mono HO256.out (fun k_ hk => (⟨hk, hk⟩ : _ ∧ k_ ≠ gb253))) (fun _ hk => hk.2) (.slice Ao141 t254.length co141)) (fun _ h_ => h_.1))) hb); have n1_ := Aside0.mk (blk_below (g := gb253) (o := .cells #[.slice Ao141 t254.length co141] 24 (0, 0)) (by (with_reducible repeat (first | refine blk_drewN ?_ _ | refine blk_drew ?_ | refine blk_alloc ?_ _)); refine blk_put (cs := #[.slice A0_0 l0_0.length c0_0]) ?_ 0 _ rfl; (with_reducible repeat (first | refine blk_drewN ?_ _ | refine blk_drew ?_ | refine blk_alloc ?_ _)); exact BK253.out) hb); have n2_ := Aside0.mk (below_step (by repeat (first | (with_reducible first | exact HB.out | apply below_alloc | apply pw_below_drewN | apply below_drew1 | refine below_set ?_ GE253.out) | exact HB.out)) hb); clear HO256; clear BK253; clear HB; have HO256 := n0_; have BK253 := n1_; have HB := n2_; clear n0_ n1_ n2_; (try clear hb); (try clear hb2); (try clear hk); (try clear hi); have hcz144_0 : w143.cell? ⟨gb253, 0, none⟩ = some (.slice Ao141 t254.length co141) := (blk_cell BK253.out 0).trans rfl; have hfz144_0 := blk_frozen BK253.out 0) | (go_at_call 18; (with_reducible refine (cavillaw13_far.calls _ _ t254 false _ ?side1 ?side2 A5.out).mono ?_); (case side1 => repeat (first | exact (Kd.N_reads' HO256.out).2.2 | (with_reducible refine Kd.C_alloc ?_ _) | (with_reducible refine Kd.C_drewN ?_ _) | (with_reducible refine Kd.C_drew ?_))); (case side2 => exact (Kd.N_reads' HO256.out).2.1); rintro e w145 ⟨rfl, hb⟩; have n0_ := Aside0.mk (Kd.N_below (by (with_reducible repeat (first | apply Kd.N_alloc | apply Kd.N_drewN | apply Kd.N_drew)); exact HO256.out) hb); have n1_ := Aside0.mk (blk_below (g := gb253) (o := .cells #[.slice Ao141 t254.length co141] 24 (0, 0)) (by (with_reducible repeat (first | refine blk_drewN ?_ _ | refine blk_drew ?_ | refine blk_alloc ?_ _)); exact BK253.out) hb); have n2_ := Aside0.mk (below_step (by repeat (first | (with_reducible first | exact HB.out | apply below_alloc | apply pw_below_drewN | apply below_drew1 | refine below_set ?_ GE253.out) | exact HB.out)) hb); clear HO256; clear BK253; clear HB; have HO256 := n0_; have BK253 := n1_; have HB := n2_; clear n0_ n1_ n2_; (try clear hb); (try clear hb2); (try clear hk); (try clear hi); have hcz146_0 : w145.cell? ⟨gb253, 0, none⟩ = some (.slice Ao141 t254.length co141) := (blk_cell BK253.out 0).trans rfl; have hfz146_0 := blk_frozen BK253.out 0) | (go_at_call 19; (with_reducible refine (tree_Depth.calls k _ _ t254 t261 t262 _ ?side1 ?side2 A17.out).mono ?_); (case side1 => repeat (first | exact (Kd.N_reads' HO256.out).2.2 | (with_reducible refine Kd.C_alloc ?_ _) | (with_reducible refine Kd.C_drewN ?_ _) | (with_reducible refine Kd.C_drew ?_))); (case side2 => exact (Kd.N_reads' HO256.out).2.1); rintro e w147 ⟨rfl, hb⟩; have n0_ := Aside0.mk (Kd.N_below (by (with_reducible repeat (first | apply Kd.N_alloc | apply Kd.N_drewN | apply Kd.N_drew)); exact HO256.out) hb); have n1_ := Aside0.mk (blk_below (g := gb253) (o := .cells #[.slice Ao141 t254.length co141] 24 (0, 0)) (by (with_reducible repeat (first | refine blk_drewN ?_ _ | refine blk_drew ?_ | refine blk_alloc ?_ _)); exact BK253.out) hb); have n2_ := Aside0.mk (below_step (by repeat (first | (with_reducible first | exact HB.out | apply below_alloc | apply pw_below_drewN | apply below_drew1 | refine below_set ?_ GE253.out) | exact HB.out)) hb); clear HO256; clear BK253; clear HB; have HO256 := n0_; have BK253 := n1_; have HB := n2_; clear n0_ n1_ n2_; (try clear hb); (try clear hb2); (try clear hk); (try clear hi); (try simp only [errW_none, errW_some, erT_no, erV_no, erT_at, erV_at]); have hcz148_0 : w147.cell? ⟨gb253, 0, none⟩ = some (.slice Ao141 t254.length co141) := (blk_cell BK253.out 0).trans rfl; have hfz148_0 := blk_frozen BK253.out 0) | (go_at_call 20; (with_reducible refine (tree_Parents.calls k _ _ t254 t263 t266 _ ?side1 ?side2 A18.out).mono ?_); (case side1 => repeat (first | exact (Kd.N_reads' HO256.out).2.2 | (with_reducible refine Kd.C_alloc ?_ _) | (with_reducible refine Kd.C_drewN ?_ _) | (with_reducible refine Kd.C_drew ?_))); (case side2 => exact (Kd.N_reads' HO256.out).2.1); rintro e w149 ⟨v264, rfl, ho0, hb⟩; have n0_ := Aside0.mk (Kd.N_elder' (by (with_reducible repeat (first | apply Kd.N_alloc | apply Kd.N_drewN | apply Kd.N_drew)); exact HO256.out) (Kd.R_base ho0) hb); have n1_ := Aside0.mk (Kd.R_lower ho0 (below_size (by repeat (first | (with_reducible first | exact HB.out | apply below_alloc | apply pw_below_drewN | apply below_drew1 | refine below_set ?_ GE253.out) | exact HB.out)))); have n2_ := Aside0.mk (blk_below (g := gb253) (o := .cells #[.slice Ao141 t254.length co141] 24 (0, 0)) (by (with_reducible repeat (first | refine blk_drewN ?_ _ | refine blk_drew ?_ | refine blk_alloc ?_ _)); exact BK253.out) hb); have n3_ := Aside0.mk (below_step (by repeat (first | (with_reducible first | exact HB.out | apply below_alloc | apply pw_below_drewN | apply below_drew1 | refine below_set ?_ GE253.out) | exact HB.out)) hb); clear HO256; clear BK253; clear HB; have HO256 := n0_; have HO265 := n1_; have BK253 := n2_; have HB := n3_; clear n0_ n1_ n2_ n3_; (try clear hb); (try clear hb2); (try clear hk); (try clear hi); (try clear ho0); (try simp only [errW_none, errW_some, erT_no, erV_no, erT_at, erV_at]); have hcz150_0 : w149.cell? ⟨gb253, 0, none⟩ = some (.slice Ao141 t254.length co141) := (blk_cell BK253.out 0).trans rfl; have hfz150_0 := blk_frozen BK253.out 0) | (go_at_call 21; (with_reducible refine (tree_Own.calls k _ _ t254 a1 t267 t270 _ ?side1 ?side2 A19.out).mono ?_); (case side1 => repeat (first | exact (Kd.N_reads' HO256.out).2.2 | (with_reducible refine Kd.C_alloc ?_ _) | (with_reducible refine Kd.C_drewN ?_ _) | (with_reducible refine Kd.C_drew ?_))); (case side2 => exact (Kd.N_reads' HO256.out).2.1); rintro e w151 ⟨v268, rfl, ho0, hb⟩; have n0_ := Aside0.mk (Kd.N_elder' (by (with_reducible repeat (first | apply Kd.N_alloc | apply Kd.N_drewN | apply Kd.N_drew)); exact HO256.out) (Kd.R_base ho0) hb); have n1_ := Aside0.mk (Kd.R_elder' (by (with_reducible repeat (first | apply Kd.R_alloc | apply Kd.R_drewN | apply Kd.R_drew)); exact HO265.out) (Kd.R_base ho0) hb); have n2_ := Aside0.mk (Kd.R_lower (Kd.R_new' ho0 (Kd.R_lt (by (with_reducible repeat (first | apply Kd.R_alloc | apply Kd.R_drewN | apply Kd.R_drew)); exact HO265.out))) (below_size (by repeat (first | (with_reducible first | exact HB.out | apply below_alloc | apply pw_below_drewN | apply below_drew1 | refine below_set ?_ GE253.out) | exact HB.out)))); have n3_ := Aside0.mk (blk_below (g := gb253) (o := .cells #[.slice Ao141 t254.length co141] 24 (0, 0)) (by (with_reducible repeat (first | refine blk_drewN ?_ _ | refine blk_drew ?_ | refine blk_alloc ?_ _)); exact BK253.out) hb); have n4_ := Aside0.mk (below_step (by repeat (first | (with_reducible first | exact HB.out | apply below_alloc | apply pw_below_drewN | apply below_drew1 | refine below_set ?_ GE253.out) | exact HB.out)) hb); clear HO256; clear HO265; clear BK253; clear HB; have HO256 := n0_; have HO265 := n1_; have HO269 := n2_; have BK253 := n3_; have HB := n4_; clear n0_ n1_ n2_ n3_ n4_; (try clear hb); (try clear hb2); (try clear hk); (try clear hi); (try clear ho0); (try simp only [errW_none, errW_some, erT_no, erV_no, erT_at, erV_at]); have CA86 := fun W => cavillaw01_Code.calls k t262 t271 W A86.out; try simp only [errW_none, errW_some, erT_no, erV_no, erT_at, erV_at] at CA86) | (go_at_call 13; (with_reducible refine (CA86 _).mono ?_); rintro e w152 ⟨rfl, hb⟩; have n0_ := Aside0.mk (Kd.N_below (by (with_reducible repeat (first | apply Kd.N_alloc | apply Kd.N_drewN | apply Kd.N_drew)); exact HO256.out) hb); have n1_ := Aside0.mk (Kd.R_below (by (with_reducible repeat (first | apply Kd.R_alloc | apply Kd.R_drewN | apply Kd.R_drew)); exact HO265.out) hb); have n2_ := Aside0.mk (Kd.R_below (by (with_reducible repeat (first | apply Kd.R_alloc | apply Kd.R_drewN | apply Kd.R_drew)); exact HO269.out) hb); have n3_ := Aside0.mk (blk_below (g := gb253) (o := .cells #[.slice Ao141 t254.length co141] 24 (0, 0)) (by (with_reducible repeat (first | refine blk_drewN ?_ _ | refine blk_drew ?_ | refine blk_alloc ?_ _)); exact BK253.out) hb); have n4_ := Aside0.mk (below_step (by repeat (first | (with_reducible first | exact HB.out | apply below_alloc | apply pw_below_drewN | apply below_drew1 | refine below_set ?_ GE253.out) | exact HB.out)) hb); clear HO256; clear HO265; clear HO269; clear BK253; clear HB; have HO256 := n0_; have HO265 := n1_; have HO269 := n2_; have BK253 := n3_; have HB := n4_; clear n0_ n1_ n2_ n3_ n4_; (try clear hb); (try clear hb2); (try clear hk); (try clear hi); have CA88 := fun W hg_ => cavillaw01_Off.calls t262 t272 W hg_ A88.out; try simp only [errW_none, errW_some, erT_no, erV_no, erT_at, erV_at] at CA88) | (go_at_call 14; (with_reducible refine (CA88 _ ?sideg).mono ?_); (case sideg => repeat (first | exact (GL_below HG.out HB.out) | exact HG.out | (with_reducible refine GL_alloc ?_ _) | (with_reducible refine GL_drewN ?_ _) | (with_reducible refine GL_drew ?_))); rintro e w153 ⟨rfl, hb⟩; have n0_ := Aside0.mk (Kd.N_below (by (with_reducible repeat (first | apply Kd.N_alloc | apply Kd.N_drewN | apply Kd.N_drew)); exact HO256.out) hb); have n1_ := Aside0.mk (Kd.R_below (by (with_reducible repeat (first | apply Kd.R_alloc | apply Kd.R_drewN | apply Kd.R_drew)); exact HO265.out) hb); have n2_ := Aside0.mk (Kd.R_below (by (with_reducible repeat (first | apply Kd.R_alloc | apply Kd.R_drewN | apply Kd.R_drew)); exact HO269.out) hb); have n3_ := Aside0.mk (blk_below (g := gb253) (o := .cells #[.slice Ao141 t254.length co141] 24 (0, 0)) (by (with_reducible repeat (first | refine blk_drewN ?_ _ | refine blk_drew ?_ | refine blk_alloc ?_ _)); exact BK253.out) hb); have n4_ := Aside0.mk (below_step (by repeat (first | (with_reducible first | exact HB.out | apply below_alloc | apply pw_below_drewN | apply below_drew1 | refine below_set ?_ GE253.out) | exact HB.out)) hb); clear HO256; clear HO265; clear HO269; clear BK253; clear HB; have HO256 := n0_; have HO265 := n1_; have HO269 := n2_; have BK253 := n3_; have HB := n4_; clear n0_ n1_ n2_ n3_ n4_; (try clear hb); (try clear hb2); (try clear hk); (try clear hi); have CA90 := fun W => cavillaw01_Code.calls k t266 t273 W A90.out; try simp only [errW_none, errW_some, erT_no, erV_no, erT_at, erV_at] at CA90) | (go_at_call 13; (with_reducible refine (CA90 _).mono ?_); rintro e w154 ⟨rfl, hb⟩; have n0_ := Aside0.mk (Kd.N_below (by (with_reducible repeat (first | apply Kd.N_alloc | apply Kd.N_drewN | apply Kd.N_drew)); exact HO256.out) hb); have n1_ := Aside0.mk (Kd.R_below (by (with_reducible repeat (first | apply Kd.R_alloc | apply Kd.R_drewN | apply Kd.R_drew)); exact HO265.out) hb); have n2_ := Aside0.mk (Kd.R_below (by (with_reducible repeat (first | apply Kd.R_alloc | apply Kd.R_drewN | apply Kd.R_drew)); exact HO269.out) hb); have n3_ := Aside0.mk (blk_below (g := gb253) (o := .cells #[.slice Ao141 t254.length co141] 24 (0, 0)) (by (with_reducible repeat (first | refine blk_drewN ?_ _ | refine blk_drew ?_ | refine blk_alloc ?_ _)); exact BK253.out) hb); have n4_ := Aside0.mk (below_step (by repeat (first | (with_reducible first | exact HB.out | apply below_alloc | apply pw_below_drewN | apply below_drew1 | refine below_set ?_ GE253.out) | exact HB.out)) hb); clear HO256; clear HO265; clear HO269; clear BK253; clear HB; have HO256 := n0_; have HO265 := n1_; have HO269 := n2_; have BK253 := n3_; have HB := n4_; clear n0_ n1_ n2_ n3_ n4_; (try clear hb); (try clear hb2); (try clear hk); (try clear hi); have CA92 := fun W => cavillaw01_Code.calls k t270 t274 W A92.out; try simp only [errW_none, errW_some, erT_no, erV_no, erT_at, erV_at] at CA92) | (go_at_call 13; (with_reducible refine (CA92 _).mono ?_); rintro e w155 ⟨rfl, hb⟩; have n0_ := Aside0.mk (Kd.N_below (by (with_reducible repeat (first | apply Kd.N_alloc | apply Kd.N_drewN | apply Kd.N_drew)); exact HO256.out) hb); have n1_ := Aside0.mk (Kd.R_below (by (with_reducible repeat (first | apply Kd.R_alloc | apply Kd.R_drewN | apply Kd.R_drew)); exact HO265.out) hb); have n2_ := Aside0.mk (Kd.R_below (by (with_reducible repeat (first | apply Kd.R_alloc | apply Kd.R_drewN | apply Kd.R_drew)); exact HO269.out) hb); have n3_ := Aside0.mk (blk_below (g := gb253) (o := .cells #[.slice Ao141 t254.length co141] 24 (0, 0)) (by (with_reducible repeat (first | refine blk_drewN ?_ _ | refine blk_drew ?_ | refine blk_alloc ?_ _)); exact BK253.out) hb); have n4_ := Aside0.mk (below_step (by repeat (first | (with_reducible first | exact HB.out | apply below_alloc | apply pw_below_drewN | apply below_drew1 | refine below_set ?_ GE253.out) | exact HB.out)) hb); clear HO256; clear HO265; clear HO269; clear BK253; clear HB; have HO256 := n0_; have HO265 := n1_; have HO269 := n2_; have BK253 := n3_; have HB := n4_; clear n0_ n1_ n2_ n3_ n4_; (try clear hb); (try clear hb2); (try clear hk); (try clear hi)))
                go_ret
                exact ⟨by first | rfl | (simp [errW_none, errW_some, erT_no, erV_no, erT_at, erV_at] <;> rfl) | (simp [*, errW_none, errW_some, erT_no, erV_no, erT_at, erV_at] <;> rfl), by repeat (first | (with_reducible first | exact HB.out | apply below_alloc | apply pw_below_drewN | apply below_drew1 | refine below_set ?_ GE253.out) | exact HB.out)⟩
            · rw [if_neg c93] at H
              have c93b0 : (t274 == t257) = false := beq_eq_false_iff_ne.mpr c93
              have c93b1 : (t274 != t257) = true := bne_iff_ne.mpr c93
              obtain rfl := Option.some.inj H
              go_enter Tryd.func4, Tryd.ntmps4
              go_wp2_with (first | ((with_reducible refine gate_dst (N := 2) rfl ?_); (try (refine gate_guard (by rfl) ?_; dsimp only)); refine box_event ?hg (N := 2) ?hd (cs := #[.slice A0_0 l0_0.length c0_0]) (t := 24) ?hr ?_; (case hd => rfl); (case hg => rfl); (case hr => first | (go_simp; done) | (go_simp; rfl)); intro gb253 hg w156 hbox hb; have n0_ := Aside0.mk (below_step (by repeat (first | (with_reducible first | exact HB.out | apply below_alloc | apply pw_below_drewN | apply below_drew1) | exact HB.out)) hb); have n1_ := Aside0.mk (hbox); have n2_ := Aside0.mk ((by rw [hg]; exact (below_size (by repeat (first | (with_reducible first | exact HB.out | apply below_alloc | apply pw_below_drewN | apply below_drew1) | exact HB.out))) : w.heap.size ≤ gb253)); have n3_ := Aside0.mk ((by rw [hg]; exact (below_size (by repeat (first | (with_reducible first | exact HB.out | apply below_alloc | apply pw_below_drewN | apply below_drew1) | exact HB.out))) : w.heap.size ≤ gb253)); clear HB; have HB := n0_; have BK253 := n1_; have GW253 := n2_; have GE253 := n3_; clear n0_ n1_ n2_ n3_; clear hb hbox hg; have hcz157_0 : w156.cell? ⟨gb253, 0, none⟩ = some (.slice A0_0 l0_0.length c0_0) := (blk_cell BK253.out 0).trans rfl; have hfz157_0 := blk_frozen BK253.out 0) | (go_at_call 10; (with_reducible refine (cavillaw13_Few.calls k (fun k_ => k_ < w.heap.size) _ _ l0_0 t254 _ ?side1 A3.out).mono ?_); (case side1 => exact Kd.V_mk HC0_0.out (Kd.F_below (Kd.C_F k33_heap HR0_0.out) (by repeat (first | (with_reducible first | exact HB.out | apply below_alloc | apply pw_below_drewN | apply below_drew1 | refine below_set ?_ GE253.out) | exact HB.out)))); rintro e w158 ⟨v255, rfl, ho0, hb⟩; have n0_ := Aside0.mk (Kd.N_lower (Kd.N_mono (ok' := fun k_ => k_ ≠ gb253) ho0 (fun k_ hk_ => Or.elim hk_ (fun hs_ => fun e_ => Nat.not_le.2 hs_ (by rw [e_]; exact GW253.out)) (fun hn_ => (Kd.freshB (g := gb253) (o := .cells #[.slice A0_0 l0_0.length c0_0] 24 (0, 0)) (by (with_reducible repeat (first | refine blk_drewN ?_ _ | refine blk_drew ?_ | refine blk_alloc ?_ _)); exact BK253.out) k_ hn_)))) (below_size (by repeat (first | (with_reducible first | exact HB.out | apply below_alloc | apply pw_below_drewN | apply below_drew1 | refine below_set ?_ GE253.out) | exact HB.out)))); have n1_ := Aside0.mk (blk_below (g := gb253) (o := .cells #[.slice A0_0 l0_0.length c0_0] 24 (0, 0)) (by (with_reducible repeat (first | refine blk_drewN ?_ _ | refine blk_drew ?_ | refine blk_alloc ?_ _)); exact BK253.out) hb); have n2_ := Aside0.mk (below_step (by repeat (first | (with_reducible first | exact HB.out | apply below_alloc | apply pw_below_drewN | apply below_drew1 | refine below_set ?_ GE253.out) | exact HB.out)) hb); clear BK253; clear HB; have HO256 := n0_; have BK253 := n1_; have HB := n2_; clear n0_ n1_ n2_; (try clear hb); (try clear hb2); (try clear hk); (try clear hi); (try clear ho0); obtain ⟨Ao159, co159, eo159⟩ := Kd.N_slice HO256.out; subst eo159; have hcz160_0 : w158.cell? ⟨gb253, 0, none⟩ = some (.slice A0_0 l0_0.length c0_0) := (blk_cell BK253.out 0).trans rfl; have hfz160_0 := blk_frozen BK253.out 0) | (go_at_call 17; (with_reducible refine (cavilref13_Sound.calls k _ _ t254 t257 t258 _ ?side1 ?side2 A4.out).mono ?_); (case side1 => refine (Kd.N_reads' (e := 33) (base := w.heap.size) (ok := fun k_ => k_ ≠ gb253) (n := t254.length) (c := co159) ?_).2.2; exact (by (with_reducible repeat (first | apply Kd.N_alloc | apply Kd.N_drewN | apply Kd.N_drew)); exact (Kd.N_mono (Kd.N_far (p := ⟨gb253, 0, none⟩) (Kd.N_mono HO256.out (fun k_ hk => (⟨hk, hk⟩ : _ ∧ k_ ≠ gb253))) (fun _ hk => hk.2) (.slice Ao159 t254.length co159)) (fun _ h_ => h_.1)))); (case side2 => exact (Kd.N_reads' HO256.out).2.1); rintro e w161 ⟨rfl, hb⟩; have n0_ := Aside0.mk (Kd.N_below (by (with_reducible repeat (first | apply Kd.N_alloc | apply Kd.N_drewN | apply Kd.N_drew)); exact (Kd.N_mono (Kd.N_far (p := ⟨gb253, 0, none⟩) (Kd.N_mono HO256.out (fun k_ hk => (⟨hk, hk⟩ : _ ∧ k_ ≠ gb253))) (fun _ hk => hk.2) (.slice Ao159 t254.length co159)) (fun _ h_ => h_.1))) hb); have n1_ := Aside0.mk (blk_below (g := gb253) (o := .cells #[.slice Ao159 t254.length co159] 24 (0, 0)) (by (with_reducible repeat (first | refine blk_drewN ?_ _ | refine blk_drew ?_ | refine blk_alloc ?_ _)); refine blk_put (cs := #[.slice A0_0 l0_0.length c0_0]) ?_ 0 _ rfl; (with_reducible repeat (first | refine blk_drewN ?_ _ | refine blk_drew ?_ | refine blk_alloc ?_ _)); exact BK253.out) hb); have n2_ := Aside0.mk (below_step (by repeat (first | (with_reducible first | exact HB.out | apply below_alloc | apply pw_below_drewN | apply below_drew1 | refine below_set ?_ GE253.out) | exact HB.out)) hb); clear HO256; clear BK253; clear HB; have HO256 := n0_; have BK253 := n1_; have HB := n2_; clear n0_ n1_ n2_; (try clear hb); (try clear hb2); (try clear hk); (try clear hi); have hcz162_0 : w161.cell? ⟨gb253, 0, none⟩ = some (.slice Ao159 t254.length co159) := (blk_cell BK253.out 0).trans rfl; have hfz162_0 := blk_frozen BK253.out 0) | (go_at_call 18; (with_reducible refine (cavillaw13_far.calls _ _ t254 false _ ?side1 ?side2 A5.out).mono ?_); (case side1 => repeat (first | exact (Kd.N_reads' HO256.out).2.2 | (with_reducible refine Kd.C_alloc ?_ _) | (with_reducible refine Kd.C_drewN ?_ _) | (with_reducible refine Kd.C_drew ?_))); (case side2 => exact (Kd.N_reads' HO256.out).2.1); rintro e w163 ⟨rfl, hb⟩; have n0_ := Aside0.mk (Kd.N_below (by (with_reducible repeat (first | apply Kd.N_alloc | apply Kd.N_drewN | apply Kd.N_drew)); exact HO256.out) hb); have n1_ := Aside0.mk (blk_below (g := gb253) (o := .cells #[.slice Ao159 t254.length co159] 24 (0, 0)) (by (with_reducible repeat (first | refine blk_drewN ?_ _ | refine blk_drew ?_ | refine blk_alloc ?_ _)); exact BK253.out) hb); have n2_ := Aside0.mk (below_step (by repeat (first | (with_reducible first | exact HB.out | apply below_alloc | apply pw_below_drewN | apply below_drew1 | refine below_set ?_ GE253.out) | exact HB.out)) hb); clear HO256; clear BK253; clear HB; have HO256 := n0_; have BK253 := n1_; have HB := n2_; clear n0_ n1_ n2_; (try clear hb); (try clear hb2); (try clear hk); (try clear hi); have hcz164_0 : w163.cell? ⟨gb253, 0, none⟩ = some (.slice Ao159 t254.length co159) := (blk_cell BK253.out 0).trans rfl; have hfz164_0 := blk_frozen BK253.out 0) | (go_at_call 19; (with_reducible refine (tree_Depth.calls k _ _ t254 t261 t262 _ ?side1 ?side2 A17.out).mono ?_); (case side1 => repeat (first | exact (Kd.N_reads' HO256.out).2.2 | (with_reducible refine Kd.C_alloc ?_ _) | (with_reducible refine Kd.C_drewN ?_ _) | (with_reducible refine Kd.C_drew ?_))); (case side2 => exact (Kd.N_reads' HO256.out).2.1); rintro e w165 ⟨rfl, hb⟩; have n0_ := Aside0.mk (Kd.N_below (by (with_reducible repeat (first | apply Kd.N_alloc | apply Kd.N_drewN | apply Kd.N_drew)); exact HO256.out) hb); have n1_ := Aside0.mk (blk_below (g := gb253) (o := .cells #[.slice Ao159 t254.length co159] 24 (0, 0)) (by (with_reducible repeat (first | refine blk_drewN ?_ _ | refine blk_drew ?_ | refine blk_alloc ?_ _)); exact BK253.out) hb); have n2_ := Aside0.mk (below_step (by repeat (first | (with_reducible first | exact HB.out | apply below_alloc | apply pw_below_drewN | apply below_drew1 | refine below_set ?_ GE253.out) | exact HB.out)) hb); clear HO256; clear BK253; clear HB; have HO256 := n0_; have BK253 := n1_; have HB := n2_; clear n0_ n1_ n2_; (try clear hb); (try clear hb2); (try clear hk); (try clear hi); (try simp only [errW_none, errW_some, erT_no, erV_no, erT_at, erV_at]); have hcz166_0 : w165.cell? ⟨gb253, 0, none⟩ = some (.slice Ao159 t254.length co159) := (blk_cell BK253.out 0).trans rfl; have hfz166_0 := blk_frozen BK253.out 0) | (go_at_call 20; (with_reducible refine (tree_Parents.calls k _ _ t254 t263 t266 _ ?side1 ?side2 A18.out).mono ?_); (case side1 => repeat (first | exact (Kd.N_reads' HO256.out).2.2 | (with_reducible refine Kd.C_alloc ?_ _) | (with_reducible refine Kd.C_drewN ?_ _) | (with_reducible refine Kd.C_drew ?_))); (case side2 => exact (Kd.N_reads' HO256.out).2.1); rintro e w167 ⟨v264, rfl, ho0, hb⟩; have n0_ := Aside0.mk (Kd.N_elder' (by (with_reducible repeat (first | apply Kd.N_alloc | apply Kd.N_drewN | apply Kd.N_drew)); exact HO256.out) (Kd.R_base ho0) hb); have n1_ := Aside0.mk (Kd.R_lower ho0 (below_size (by repeat (first | (with_reducible first | exact HB.out | apply below_alloc | apply pw_below_drewN | apply below_drew1 | refine below_set ?_ GE253.out) | exact HB.out)))); have n2_ := Aside0.mk (blk_below (g := gb253) (o := .cells #[.slice Ao159 t254.length co159] 24 (0, 0)) (by (with_reducible repeat (first | refine blk_drewN ?_ _ | refine blk_drew ?_ | refine blk_alloc ?_ _)); exact BK253.out) hb); have n3_ := Aside0.mk (below_step (by repeat (first | (with_reducible first | exact HB.out | apply below_alloc | apply pw_below_drewN | apply below_drew1 | refine below_set ?_ GE253.out) | exact HB.out)) hb); clear HO256; clear BK253; clear HB; have HO256 := n0_; have HO265 := n1_; have BK253 := n2_; have HB := n3_; clear n0_ n1_ n2_ n3_; (try clear hb); (try clear hb2); (try clear hk); (try clear hi); (try clear ho0); (try simp only [errW_none, errW_some, erT_no, erV_no, erT_at, erV_at]); have hcz168_0 : w167.cell? ⟨gb253, 0, none⟩ = some (.slice Ao159 t254.length co159) := (blk_cell BK253.out 0).trans rfl; have hfz168_0 := blk_frozen BK253.out 0) | (go_at_call 21; (with_reducible refine (tree_Own.calls k _ _ t254 a1 t267 t270 _ ?side1 ?side2 A19.out).mono ?_); (case side1 => repeat (first | exact (Kd.N_reads' HO256.out).2.2 | (with_reducible refine Kd.C_alloc ?_ _) | (with_reducible refine Kd.C_drewN ?_ _) | (with_reducible refine Kd.C_drew ?_))); (case side2 => exact (Kd.N_reads' HO256.out).2.1); rintro e w169 ⟨v268, rfl, ho0, hb⟩; have n0_ := Aside0.mk (Kd.N_elder' (by (with_reducible repeat (first | apply Kd.N_alloc | apply Kd.N_drewN | apply Kd.N_drew)); exact HO256.out) (Kd.R_base ho0) hb); have n1_ := Aside0.mk (Kd.R_elder' (by (with_reducible repeat (first | apply Kd.R_alloc | apply Kd.R_drewN | apply Kd.R_drew)); exact HO265.out) (Kd.R_base ho0) hb); have n2_ := Aside0.mk (Kd.R_lower (Kd.R_new' ho0 (Kd.R_lt (by (with_reducible repeat (first | apply Kd.R_alloc | apply Kd.R_drewN | apply Kd.R_drew)); exact HO265.out))) (below_size (by repeat (first | (with_reducible first | exact HB.out | apply below_alloc | apply pw_below_drewN | apply below_drew1 | refine below_set ?_ GE253.out) | exact HB.out)))); have n3_ := Aside0.mk (blk_below (g := gb253) (o := .cells #[.slice Ao159 t254.length co159] 24 (0, 0)) (by (with_reducible repeat (first | refine blk_drewN ?_ _ | refine blk_drew ?_ | refine blk_alloc ?_ _)); exact BK253.out) hb); have n4_ := Aside0.mk (below_step (by repeat (first | (with_reducible first | exact HB.out | apply below_alloc | apply pw_below_drewN | apply below_drew1 | refine below_set ?_ GE253.out) | exact HB.out)) hb); clear HO256; clear HO265; clear BK253; clear HB; have HO256 := n0_; have HO265 := n1_; have HO269 := n2_; have BK253 := n3_; have HB := n4_; clear n0_ n1_ n2_ n3_ n4_; (try clear hb); (try clear hb2); (try clear hk); (try clear hi); (try clear ho0); (try simp only [errW_none, errW_some, erT_no, erV_no, erT_at, erV_at]); have CA86 := fun W => cavillaw01_Code.calls k t262 t271 W A86.out; try simp only [errW_none, errW_some, erT_no, erV_no, erT_at, erV_at] at CA86) | (go_at_call 13; (with_reducible refine (CA86 _).mono ?_); rintro e w170 ⟨rfl, hb⟩; have n0_ := Aside0.mk (Kd.N_below (by (with_reducible repeat (first | apply Kd.N_alloc | apply Kd.N_drewN | apply Kd.N_drew)); exact HO256.out) hb); have n1_ := Aside0.mk (Kd.R_below (by (with_reducible repeat (first | apply Kd.R_alloc | apply Kd.R_drewN | apply Kd.R_drew)); exact HO265.out) hb); have n2_ := Aside0.mk (Kd.R_below (by (with_reducible repeat (first | apply Kd.R_alloc | apply Kd.R_drewN | apply Kd.R_drew)); exact HO269.out) hb); have n3_ := Aside0.mk (blk_below (g := gb253) (o := .cells #[.slice Ao159 t254.length co159] 24 (0, 0)) (by (with_reducible repeat (first | refine blk_drewN ?_ _ | refine blk_drew ?_ | refine blk_alloc ?_ _)); exact BK253.out) hb); have n4_ := Aside0.mk (below_step (by repeat (first | (with_reducible first | exact HB.out | apply below_alloc | apply pw_below_drewN | apply below_drew1 | refine below_set ?_ GE253.out) | exact HB.out)) hb); clear HO256; clear HO265; clear HO269; clear BK253; clear HB; have HO256 := n0_; have HO265 := n1_; have HO269 := n2_; have BK253 := n3_; have HB := n4_; clear n0_ n1_ n2_ n3_ n4_; (try clear hb); (try clear hb2); (try clear hk); (try clear hi); have CA88 := fun W hg_ => cavillaw01_Off.calls t262 t272 W hg_ A88.out; try simp only [errW_none, errW_some, erT_no, erV_no, erT_at, erV_at] at CA88) | (go_at_call 14; (with_reducible refine (CA88 _ ?sideg).mono ?_); (case sideg => repeat (first | exact (GL_below HG.out HB.out) | exact HG.out | (with_reducible refine GL_alloc ?_ _) | (with_reducible refine GL_drewN ?_ _) | (with_reducible refine GL_drew ?_))); rintro e w171 ⟨rfl, hb⟩; have n0_ := Aside0.mk (Kd.N_below (by (with_reducible repeat (first | apply Kd.N_alloc | apply Kd.N_drewN | apply Kd.N_drew)); exact HO256.out) hb); have n1_ := Aside0.mk (Kd.R_below (by (with_reducible repeat (first | apply Kd.R_alloc | apply Kd.R_drewN | apply Kd.R_drew)); exact HO265.out) hb); have n2_ := Aside0.mk (Kd.R_below (by (with_reducible repeat (first | apply Kd.R_alloc | apply Kd.R_drewN | apply Kd.R_drew)); exact HO269.out) hb); have n3_ := Aside0.mk (blk_below (g := gb253) (o := .cells #[.slice Ao159 t254.length co159] 24 (0, 0)) (by (with_reducible repeat (first | refine blk_drewN ?_ _ | refine blk_drew ?_ | refine blk_alloc ?_ _)); exact BK253.out) hb); have n4_ := Aside0.mk (below_step (by repeat (first | (with_reducible first | exact HB.out | apply below_alloc | apply pw_below_drewN | apply below_drew1 | refine below_set ?_ GE253.out) | exact HB.out)) hb); clear HO256; clear HO265; clear HO269; clear BK253; clear HB; have HO256 := n0_; have HO265 := n1_; have HO269 := n2_; have BK253 := n3_; have HB := n4_; clear n0_ n1_ n2_ n3_ n4_; (try clear hb); (try clear hb2); (try clear hk); (try clear hi); have CA90 := fun W => cavillaw01_Code.calls k t266 t273 W A90.out; try simp only [errW_none, errW_some, erT_no, erV_no, erT_at, erV_at] at CA90) | (go_at_call 13; (with_reducible refine (CA90 _).mono ?_); rintro e w172 ⟨rfl, hb⟩; have n0_ := Aside0.mk (Kd.N_below (by (with_reducible repeat (first | apply Kd.N_alloc | apply Kd.N_drewN | apply Kd.N_drew)); exact HO256.out) hb); have n1_ := Aside0.mk (Kd.R_below (by (with_reducible repeat (first | apply Kd.R_alloc | apply Kd.R_drewN | apply Kd.R_drew)); exact HO265.out) hb); have n2_ := Aside0.mk (Kd.R_below (by (with_reducible repeat (first | apply Kd.R_alloc | apply Kd.R_drewN | apply Kd.R_drew)); exact HO269.out) hb); have n3_ := Aside0.mk (blk_below (g := gb253) (o := .cells #[.slice Ao159 t254.length co159] 24 (0, 0)) (by (with_reducible repeat (first | refine blk_drewN ?_ _ | refine blk_drew ?_ | refine blk_alloc ?_ _)); exact BK253.out) hb); have n4_ := Aside0.mk (below_step (by repeat (first | (with_reducible first | exact HB.out | apply below_alloc | apply pw_below_drewN | apply below_drew1 | refine below_set ?_ GE253.out) | exact HB.out)) hb); clear HO256; clear HO265; clear HO269; clear BK253; clear HB; have HO256 := n0_; have HO265 := n1_; have HO269 := n2_; have BK253 := n3_; have HB := n4_; clear n0_ n1_ n2_ n3_ n4_; (try clear hb); (try clear hb2); (try clear hk); (try clear hi); have CA92 := fun W => cavillaw01_Code.calls k t270 t274 W A92.out; try simp only [errW_none, errW_some, erT_no, erV_no, erT_at, erV_at] at CA92) | (go_at_call 13; (with_reducible refine (CA92 _).mono ?_); rintro e w173 ⟨rfl, hb⟩; have n0_ := Aside0.mk (Kd.N_below (by (with_reducible repeat (first | apply Kd.N_alloc | apply Kd.N_drewN | apply Kd.N_drew)); exact HO256.out) hb); have n1_ := Aside0.mk (Kd.R_below (by (with_reducible repeat (first | apply Kd.R_alloc | apply Kd.R_drewN | apply Kd.R_drew)); exact HO265.out) hb); have n2_ := Aside0.mk (Kd.R_below (by (with_reducible repeat (first | apply Kd.R_alloc | apply Kd.R_drewN | apply Kd.R_drew)); exact HO269.out) hb); have n3_ := Aside0.mk (blk_below (g := gb253) (o := .cells #[.slice Ao159 t254.length co159] 24 (0, 0)) (by (with_reducible repeat (first | refine blk_drewN ?_ _ | refine blk_drew ?_ | refine blk_alloc ?_ _)); exact BK253.out) hb); have n4_ := Aside0.mk (below_step (by repeat (first | (with_reducible first | exact HB.out | apply below_alloc | apply pw_below_drewN | apply below_drew1 | refine below_set ?_ GE253.out) | exact HB.out)) hb); clear HO256; clear HO265; clear HO269; clear BK253; clear HB; have HO256 := n0_; have HO265 := n1_; have HO269 := n2_; have BK253 := n3_; have HB := n4_; clear n0_ n1_ n2_ n3_ n4_; (try clear hb); (try clear hb2); (try clear hk); (try clear hi)))
              go_ret
              exact ⟨by first | rfl | (simp [errW_none, errW_some, erT_no, erV_no, erT_at, erV_at] <;> rfl) | (simp [*, errW_none, errW_some, erT_no, erV_no, erT_at, erV_at] <;> rfl), by repeat (first | (with_reducible first | exact HB.out | apply below_alloc | apply pw_below_drewN | apply below_drew1 | refine below_set ?_ GE253.out) | exact HB.out)⟩
          · rw [if_neg c91] at H
            have c91b0 : (t273 == t257) = false := beq_eq_false_iff_ne.mpr c91
            have c91b1 : (t273 != t257) = true := bne_iff_ne.mpr c91
            obtain rfl := Option.some.inj H
            go_enter Tryd.func4, Tryd.ntmps4
            go_wp2_with (first | ((with_reducible refine gate_dst (N := 2) rfl ?_); (try (refine gate_guard (by rfl) ?_; dsimp only)); refine box_event ?hg (N := 2) ?hd (cs := #[.slice A0_0 l0_0.length c0_0]) (t := 24) ?hr ?_; (case hd => rfl); (case hg => rfl); (case hr => first | (go_simp; done) | (go_simp; rfl)); intro gb253 hg w174 hbox hb; have n0_ := Aside0.mk (below_step (by repeat (first | (with_reducible first | exact HB.out | apply below_alloc | apply pw_below_drewN | apply below_drew1) | exact HB.out)) hb); have n1_ := Aside0.mk (hbox); have n2_ := Aside0.mk ((by rw [hg]; exact (below_size (by repeat (first | (with_reducible first | exact HB.out | apply below_alloc | apply pw_below_drewN | apply below_drew1) | exact HB.out))) : w.heap.size ≤ gb253)); have n3_ := Aside0.mk ((by rw [hg]; exact (below_size (by repeat (first | (with_reducible first | exact HB.out | apply below_alloc | apply pw_below_drewN | apply below_drew1) | exact HB.out))) : w.heap.size ≤ gb253)); clear HB; have HB := n0_; have BK253 := n1_; have GW253 := n2_; have GE253 := n3_; clear n0_ n1_ n2_ n3_; clear hb hbox hg; have hcz175_0 : w174.cell? ⟨gb253, 0, none⟩ = some (.slice A0_0 l0_0.length c0_0) := (blk_cell BK253.out 0).trans rfl; have hfz175_0 := blk_frozen BK253.out 0) | (go_at_call 10; (with_reducible refine (cavillaw13_Few.calls k (fun k_ => k_ < w.heap.size) _ _ l0_0 t254 _ ?side1 A3.out).mono ?_); (case side1 => exact Kd.V_mk HC0_0.out (Kd.F_below (Kd.C_F k33_heap HR0_0.out) (by repeat (first | (with_reducible first | exact HB.out | apply below_alloc | apply pw_below_drewN | apply below_drew1 | refine below_set ?_ GE253.out) | exact HB.out)))); rintro e w176 ⟨v255, rfl, ho0, hb⟩; have n0_ := Aside0.mk (Kd.N_lower (Kd.N_mono (ok' := fun k_ => k_ ≠ gb253) ho0 (fun k_ hk_ => Or.elim hk_ (fun hs_ => fun e_ => Nat.not_le.2 hs_ (by rw [e_]; exact GW253.out)) (fun hn_ => (Kd.freshB (g := gb253) (o := .cells #[.slice A0_0 l0_0.length c0_0] 24 (0, 0)) (by (with_reducible repeat (first | refine blk_drewN ?_ _ | refine blk_drew ?_ | refine blk_alloc ?_ _)); exact BK253.out) k_ hn_)))) (below_size (by repeat (first | (with_reducible first | exact HB.out | apply below_alloc | apply pw_below_drewN | apply below_drew1 | refine below_set ?_ GE253.out) | exact HB.out)))); have n1_ := Aside0.mk (blk_below (g := gb253) (o := .cells #[.slice A0_0 l0_0.length c0_0] 24 (0, 0)) (by (with_reducible repeat (first | refine blk_drewN ?_ _ | refine blk_drew ?_ | refine blk_alloc ?_ _)); exact BK253.out) hb); have n2_ := Aside0.mk (below_step (by repeat (first | (with_reducible first | exact HB.out | apply below_alloc | apply pw_below_drewN | apply below_drew1 | refine below_set ?_ GE253.out) | exact HB.out)) hb); clear BK253; clear HB; have HO256 := n0_; have BK253 := n1_; have HB := n2_; clear n0_ n1_ n2_; (try clear hb); (try clear hb2); (try clear hk); (try clear hi); (try clear ho0); obtain ⟨Ao177, co177, eo177⟩ := Kd.N_slice HO256.out; subst eo177; have hcz178_0 : w176.cell? ⟨gb253, 0, none⟩ = some (.slice A0_0 l0_0.length c0_0) := (blk_cell BK253.out 0).trans rfl; have hfz178_0 := blk_frozen BK253.out 0) | (go_at_call 17; (with_reducible refine (cavilref13_Sound.calls k _ _ t254 t257 t258 _ ?side1 ?side2 A4.out).mono ?_); (case side1 => refine (Kd.N_reads' (e := 33) (base := w.heap.size) (ok := fun k_ => k_ ≠ gb253) (n := t254.length) (c := co177) ?_).2.2; exact (by (with_reducible repeat (first | apply Kd.N_alloc | apply Kd.N_drewN | apply Kd.N_drew)); exact (Kd.N_mono (Kd.N_far (p := ⟨gb253, 0, none⟩) (Kd.N_mono HO256.out (fun k_ hk => (⟨hk, hk⟩ : _ ∧ k_ ≠ gb253))) (fun _ hk => hk.2) (.slice Ao177 t254.length co177)) (fun _ h_ => h_.1)))); (case side2 => exact (Kd.N_reads' HO256.out).2.1); rintro e w179 ⟨rfl, hb⟩; have n0_ := Aside0.mk (Kd.N_below (by (with_reducible repeat (first | apply Kd.N_alloc | apply Kd.N_drewN | apply Kd.N_drew)); exact (Kd.N_mono (Kd.N_far (p := ⟨gb253, 0, none⟩) (Kd.N_mono HO256.out (fun k_ hk => (⟨hk, hk⟩ : _ ∧ k_ ≠ gb253))) (fun _ hk => hk.2) (.slice Ao177 t254.length co177)) (fun _ h_ => h_.1))) hb); have n1_ := Aside0.mk (blk_below (g := gb253) (o := .cells #[.slice Ao177 t254.length co177] 24 (0, 0)) (by (with_reducible repeat (first | refine blk_drewN ?_ _ | refine blk_drew ?_ | refine blk_alloc ?_ _)); refine blk_put (cs := #[.slice A0_0 l0_0.length c0_0]) ?_ 0 _ rfl; (with_reducible repeat (first | refine blk_drewN ?_ _ | refine blk_drew ?_ | refine blk_alloc ?_ _)); exact BK253.out) hb); have n2_ := Aside0.mk (below_step (by repeat (first | (with_reducible first | exact HB.out | apply below_alloc | apply pw_below_drewN | apply below_drew1 | refine below_set ?_ GE253.out) | exact HB.out)) hb); clear HO256; clear BK253; clear HB; have HO256 := n0_; have BK253 := n1_; have HB := n2_; clear n0_ n1_ n2_; (try clear hb); (try clear hb2); (try clear hk); (try clear hi); have hcz180_0 : w179.cell? ⟨gb253, 0, none⟩ = some (.slice Ao177 t254.length co177) := (blk_cell BK253.out 0).trans rfl; have hfz180_0 := blk_frozen BK253.out 0) | (go_at_call 18; (with_reducible refine (cavillaw13_far.calls _ _ t254 false _ ?side1 ?side2 A5.out).mono ?_); (case side1 => repeat (first | exact (Kd.N_reads' HO256.out).2.2 | (with_reducible refine Kd.C_alloc ?_ _) | (with_reducible refine Kd.C_drewN ?_ _) | (with_reducible refine Kd.C_drew ?_))); (case side2 => exact (Kd.N_reads' HO256.out).2.1); rintro e w181 ⟨rfl, hb⟩; have n0_ := Aside0.mk (Kd.N_below (by (with_reducible repeat (first | apply Kd.N_alloc | apply Kd.N_drewN | apply Kd.N_drew)); exact HO256.out) hb); have n1_ := Aside0.mk (blk_below (g := gb253) (o := .cells #[.slice Ao177 t254.length co177] 24 (0, 0)) (by (with_reducible repeat (first | refine blk_drewN ?_ _ | refine blk_drew ?_ | refine blk_alloc ?_ _)); exact BK253.out) hb); have n2_ := Aside0.mk (below_step (by repeat (first | (with_reducible first | exact HB.out | apply below_alloc | apply pw_below_drewN | apply below_drew1 | refine below_set ?_ GE253.out) | exact HB.out)) hb); clear HO256; clear BK253; clear HB; have HO256 := n0_; have BK253 := n1_; have HB := n2_; clear n0_ n1_ n2_; (try clear hb); (try clear hb2); (try clear hk); (try clear hi); have hcz182_0 : w181.cell? ⟨gb253, 0, none⟩ = some (.slice Ao177 t254.length co177) := (blk_cell BK253.out 0).trans rfl; have hfz182_0 := blk_frozen BK253.out 0) | (go_at_call 19; (with_reducible refine (tree_Depth.calls k _ _ t254 t261 t262 _ ?side1 ?side2 A17.out).mono ?_); (case side1 => repeat (first | exact (Kd.N_reads' HO256.out).2.2 | (with_reducible refine Kd.C_alloc ?_ _) | (with_reducible refine Kd.C_drewN ?_ _) | (with_reducible refine Kd.C_drew ?_))); (case side2 => exact (Kd.N_reads' HO256.out).2.1); rintro e w183 ⟨rfl, hb⟩; have n0_ := Aside0.mk (Kd.N_below (by (with_reducible repeat (first | apply Kd.N_alloc | apply Kd.N_drewN | apply Kd.N_drew)); exact HO256.out) hb); have n1_ := Aside0.mk (blk_below (g := gb253) (o := .cells #[.slice Ao177 t254.length co177] 24 (0, 0)) (by (with_reducible repeat (first | refine blk_drewN ?_ _ | refine blk_drew ?_ | refine blk_alloc ?_ _)); exact BK253.out) hb); have n2_ := Aside0.mk (below_step (by repeat (first | (with_reducible first | exact HB.out | apply below_alloc | apply pw_below_drewN | apply below_drew1 | refine below_set ?_ GE253.out) | exact HB.out)) hb); clear HO256; clear BK253; clear HB; have HO256 := n0_; have BK253 := n1_; have HB := n2_; clear n0_ n1_ n2_; (try clear hb); (try clear hb2); (try clear hk); (try clear hi); (try simp only [errW_none, errW_some, erT_no, erV_no, erT_at, erV_at]); have hcz184_0 : w183.cell? ⟨gb253, 0, none⟩ = some (.slice Ao177 t254.length co177) := (blk_cell BK253.out 0).trans rfl; have hfz184_0 := blk_frozen BK253.out 0) | (go_at_call 20; (with_reducible refine (tree_Parents.calls k _ _ t254 t263 t266 _ ?side1 ?side2 A18.out).mono ?_); (case side1 => repeat (first | exact (Kd.N_reads' HO256.out).2.2 | (with_reducible refine Kd.C_alloc ?_ _) | (with_reducible refine Kd.C_drewN ?_ _) | (with_reducible refine Kd.C_drew ?_))); (case side2 => exact (Kd.N_reads' HO256.out).2.1); rintro e w185 ⟨v264, rfl, ho0, hb⟩; have n0_ := Aside0.mk (Kd.N_elder' (by (with_reducible repeat (first | apply Kd.N_alloc | apply Kd.N_drewN | apply Kd.N_drew)); exact HO256.out) (Kd.R_base ho0) hb); have n1_ := Aside0.mk (Kd.R_lower ho0 (below_size (by repeat (first | (with_reducible first | exact HB.out | apply below_alloc | apply pw_below_drewN | apply below_drew1 | refine below_set ?_ GE253.out) | exact HB.out)))); have n2_ := Aside0.mk (blk_below (g := gb253) (o := .cells #[.slice Ao177 t254.length co177] 24 (0, 0)) (by (with_reducible repeat (first | refine blk_drewN ?_ _ | refine blk_drew ?_ | refine blk_alloc ?_ _)); exact BK253.out) hb); have n3_ := Aside0.mk (below_step (by repeat (first | (with_reducible first | exact HB.out | apply below_alloc | apply pw_below_drewN | apply below_drew1 | refine below_set ?_ GE253.out) | exact HB.out)) hb); clear HO256; clear BK253; clear HB; have HO256 := n0_; have HO265 := n1_; have BK253 := n2_; have HB := n3_; clear n0_ n1_ n2_ n3_; (try clear hb); (try clear hb2); (try clear hk); (try clear hi); (try clear ho0); (try simp only [errW_none, errW_some, erT_no, erV_no, erT_at, erV_at]); have hcz186_0 : w185.cell? ⟨gb253, 0, none⟩ = some (.slice Ao177 t254.length co177) := (blk_cell BK253.out 0).trans rfl; have hfz186_0 := blk_frozen BK253.out 0) | (go_at_call 21; (with_reducible refine (tree_Own.calls k _ _ t254 a1 t267 t270 _ ?side1 ?side2 A19.out).mono ?_); (case side1 => repeat (first | exact (Kd.N_reads' HO256.out).2.2 | (with_reducible refine Kd.C_alloc ?_ _) | (with_reducible refine Kd.C_drewN ?_ _) | (with_reducible refine Kd.C_drew ?_))); (case side2 => exact (Kd.N_reads' HO256.out).2.1); rintro e w187 ⟨v268, rfl, ho0, hb⟩; have n0_ := Aside0.mk (Kd.N_elder' (by (with_reducible repeat (first | apply Kd.N_alloc | apply Kd.N_drewN | apply Kd.N_drew)); exact HO256.out) (Kd.R_base ho0) hb); have n1_ := Aside0.mk (Kd.R_elder' (by (with_reducible repeat (first | apply Kd.R_alloc | apply Kd.R_drewN | apply Kd.R_drew)); exact HO265.out) (Kd.R_base ho0) hb); have n2_ := Aside0.mk (Kd.R_lower (Kd.R_new' ho0 (Kd.R_lt (by (with_reducible repeat (first | apply Kd.R_alloc | apply Kd.R_drewN | apply Kd.R_drew)); exact HO265.out))) (below_size (by repeat (first | (with_reducible first | exact HB.out | apply below_alloc | apply pw_below_drewN | apply below_drew1 | refine below_set ?_ GE253.out) | exact HB.out)))); have n3_ := Aside0.mk (blk_below (g := gb253) (o := .cells #[.slice Ao177 t254.length co177] 24 (0, 0)) (by (with_reducible repeat (first | refine blk_drewN ?_ _ | refine blk_drew ?_ | refine blk_alloc ?_ _)); exact BK253.out) hb); have n4_ := Aside0.mk (below_step (by repeat (first | (with_reducible first | exact HB.out | apply below_alloc | apply pw_below_drewN | apply below_drew1 | refine below_set ?_ GE253.out) | exact HB.out)) hb); clear HO256; clear HO265; clear BK253; clear HB; have HO256 := n0_; have HO265 := n1_; have HO269 := n2_; have BK253 := n3_; have HB := n4_; clear n0_ n1_ n2_ n3_ n4_; (try clear hb); (try clear hb2); (try clear hk); (try clear hi); (try clear ho0); (try simp only [errW_none, errW_some, erT_no, erV_no, erT_at, erV_at]); have CA86 := fun W => cavillaw01_Code.calls k t262 t271 W A86.out; try simp only [errW_none, errW_some, erT_no, erV_no, erT_at, erV_at] at CA86) | (go_at_call 13; (with_reducible refine (CA86 _).mono ?_); rintro e w188 ⟨rfl, hb⟩; have n0_ := Aside0.mk (Kd.N_below (by (with_reducible repeat (first | apply Kd.N_alloc | apply Kd.N_drewN | apply Kd.N_drew)); exact HO256.out) hb); have n1_ := Aside0.mk (Kd.R_below (by (with_reducible repeat (first | apply Kd.R_alloc | apply Kd.R_drewN | apply Kd.R_drew)); exact HO265.out) hb); have n2_ := Aside0.mk (Kd.R_below (by (with_reducible repeat (first | apply Kd.R_alloc | apply Kd.R_drewN | apply Kd.R_drew)); exact HO269.out) hb); have n3_ := Aside0.mk (blk_below (g := gb253) (o := .cells #[.slice Ao177 t254.length co177] 24 (0, 0)) (by (with_reducible repeat (first | refine blk_drewN ?_ _ | refine blk_drew ?_ | refine blk_alloc ?_ _)); exact BK253.out) hb); have n4_ := Aside0.mk (below_step (by repeat (first | (with_reducible first | exact HB.out | apply below_alloc | apply pw_below_drewN | apply below_drew1 | refine below_set ?_ GE253.out) | exact HB.out)) hb); clear HO256; clear HO265; clear HO269; clear BK253; clear HB; have HO256 := n0_; have HO265 := n1_; have HO269 := n2_; have BK253 := n3_; have HB := n4_; clear n0_ n1_ n2_ n3_ n4_; (try clear hb); (try clear hb2); (try clear hk); (try clear hi); have CA88 := fun W hg_ => cavillaw01_Off.calls t262 t272 W hg_ A88.out; try simp only [errW_none, errW_some, erT_no, erV_no, erT_at, erV_at] at CA88) | (go_at_call 14; (with_reducible refine (CA88 _ ?sideg).mono ?_); (case sideg => repeat (first | exact (GL_below HG.out HB.out) | exact HG.out | (with_reducible refine GL_alloc ?_ _) | (with_reducible refine GL_drewN ?_ _) | (with_reducible refine GL_drew ?_))); rintro e w189 ⟨rfl, hb⟩; have n0_ := Aside0.mk (Kd.N_below (by (with_reducible repeat (first | apply Kd.N_alloc | apply Kd.N_drewN | apply Kd.N_drew)); exact HO256.out) hb); have n1_ := Aside0.mk (Kd.R_below (by (with_reducible repeat (first | apply Kd.R_alloc | apply Kd.R_drewN | apply Kd.R_drew)); exact HO265.out) hb); have n2_ := Aside0.mk (Kd.R_below (by (with_reducible repeat (first | apply Kd.R_alloc | apply Kd.R_drewN | apply Kd.R_drew)); exact HO269.out) hb); have n3_ := Aside0.mk (blk_below (g := gb253) (o := .cells #[.slice Ao177 t254.length co177] 24 (0, 0)) (by (with_reducible repeat (first | refine blk_drewN ?_ _ | refine blk_drew ?_ | refine blk_alloc ?_ _)); exact BK253.out) hb); have n4_ := Aside0.mk (below_step (by repeat (first | (with_reducible first | exact HB.out | apply below_alloc | apply pw_below_drewN | apply below_drew1 | refine below_set ?_ GE253.out) | exact HB.out)) hb); clear HO256; clear HO265; clear HO269; clear BK253; clear HB; have HO256 := n0_; have HO265 := n1_; have HO269 := n2_; have BK253 := n3_; have HB := n4_; clear n0_ n1_ n2_ n3_ n4_; (try clear hb); (try clear hb2); (try clear hk); (try clear hi); have CA90 := fun W => cavillaw01_Code.calls k t266 t273 W A90.out; try simp only [errW_none, errW_some, erT_no, erV_no, erT_at, erV_at] at CA90) | (go_at_call 13; (with_reducible refine (CA90 _).mono ?_); rintro e w190 ⟨rfl, hb⟩; have n0_ := Aside0.mk (Kd.N_below (by (with_reducible repeat (first | apply Kd.N_alloc | apply Kd.N_drewN | apply Kd.N_drew)); exact HO256.out) hb); have n1_ := Aside0.mk (Kd.R_below (by (with_reducible repeat (first | apply Kd.R_alloc | apply Kd.R_drewN | apply Kd.R_drew)); exact HO265.out) hb); have n2_ := Aside0.mk (Kd.R_below (by (with_reducible repeat (first | apply Kd.R_alloc | apply Kd.R_drewN | apply Kd.R_drew)); exact HO269.out) hb); have n3_ := Aside0.mk (blk_below (g := gb253) (o := .cells #[.slice Ao177 t254.length co177] 24 (0, 0)) (by (with_reducible repeat (first | refine blk_drewN ?_ _ | refine blk_drew ?_ | refine blk_alloc ?_ _)); exact BK253.out) hb); have n4_ := Aside0.mk (below_step (by repeat (first | (with_reducible first | exact HB.out | apply below_alloc | apply pw_below_drewN | apply below_drew1 | refine below_set ?_ GE253.out) | exact HB.out)) hb); clear HO256; clear HO265; clear HO269; clear BK253; clear HB; have HO256 := n0_; have HO265 := n1_; have HO269 := n2_; have BK253 := n3_; have HB := n4_; clear n0_ n1_ n2_ n3_ n4_; (try clear hb); (try clear hb2); (try clear hk); (try clear hi)))
            go_ret
            exact ⟨by first | rfl | (simp [errW_none, errW_some, erT_no, erV_no, erT_at, erV_at] <;> rfl) | (simp [*, errW_none, errW_some, erT_no, erV_no, erT_at, erV_at] <;> rfl), by repeat (first | (with_reducible first | exact HB.out | apply below_alloc | apply pw_below_drewN | apply below_drew1 | refine below_set ?_ GE253.out) | exact HB.out)⟩
        · rw [if_neg c89] at H
          have c89b0 : (t272 == t258) = false := beq_eq_false_iff_ne.mpr c89
          have c89b1 : (t272 != t258) = true := bne_iff_ne.mpr c89
          obtain rfl := Option.some.inj H
          go_enter Tryd.func4, Tryd.ntmps4
          go_wp2_with (first | ((with_reducible refine gate_dst (N := 2) rfl ?_); (try (refine gate_guard (by rfl) ?_; dsimp only)); refine box_event ?hg (N := 2) ?hd (cs := #[.slice A0_0 l0_0.length c0_0]) (t := 24) ?hr ?_; (case hd => rfl); (case hg => rfl); (case hr => first | (go_simp; done) | (go_simp; rfl)); intro gb253 hg w191 hbox hb; have n0_ := Aside0.mk (below_step (by repeat (first | (with_reducible first | exact HB.out | apply below_alloc | apply pw_below_drewN | apply below_drew1) | exact HB.out)) hb); have n1_ := Aside0.mk (hbox); have n2_ := Aside0.mk ((by rw [hg]; exact (below_size (by repeat (first | (with_reducible first | exact HB.out | apply below_alloc | apply pw_below_drewN | apply below_drew1) | exact HB.out))) : w.heap.size ≤ gb253)); have n3_ := Aside0.mk ((by rw [hg]; exact (below_size (by repeat (first | (with_reducible first | exact HB.out | apply below_alloc | apply pw_below_drewN | apply below_drew1) | exact HB.out))) : w.heap.size ≤ gb253)); clear HB; have HB := n0_; have BK253 := n1_; have GW253 := n2_; have GE253 := n3_; clear n0_ n1_ n2_ n3_; clear hb hbox hg; have hcz192_0 : w191.cell? ⟨gb253, 0, none⟩ = some (.slice A0_0 l0_0.length c0_0) := (blk_cell BK253.out 0).trans rfl; have hfz192_0 := blk_frozen BK253.out 0) | (go_at_call 10; (with_reducible refine (cavillaw13_Few.calls k (fun k_ => k_ < w.heap.size) _ _ l0_0 t254 _ ?side1 A3.out).mono ?_); (case side1 => exact Kd.V_mk HC0_0.out (Kd.F_below (Kd.C_F k33_heap HR0_0.out) (by repeat (first | (with_reducible first | exact HB.out | apply below_alloc | apply pw_below_drewN | apply below_drew1 | refine below_set ?_ GE253.out) | exact HB.out)))); rintro e w193 ⟨v255, rfl, ho0, hb⟩; have n0_ := Aside0.mk (Kd.N_lower (Kd.N_mono (ok' := fun k_ => k_ ≠ gb253) ho0 (fun k_ hk_ => Or.elim hk_ (fun hs_ => fun e_ => Nat.not_le.2 hs_ (by rw [e_]; exact GW253.out)) (fun hn_ => (Kd.freshB (g := gb253) (o := .cells #[.slice A0_0 l0_0.length c0_0] 24 (0, 0)) (by (with_reducible repeat (first | refine blk_drewN ?_ _ | refine blk_drew ?_ | refine blk_alloc ?_ _)); exact BK253.out) k_ hn_)))) (below_size (by repeat (first | (with_reducible first | exact HB.out | apply below_alloc | apply pw_below_drewN | apply below_drew1 | refine below_set ?_ GE253.out) | exact HB.out)))); have n1_ := Aside0.mk (blk_below (g := gb253) (o := .cells #[.slice A0_0 l0_0.length c0_0] 24 (0, 0)) (by (with_reducible repeat (first | refine blk_drewN ?_ _ | refine blk_drew ?_ | refine blk_alloc ?_ _)); exact BK253.out) hb); have n2_ := Aside0.mk (below_step (by repeat (first | (with_reducible first | exact HB.out | apply below_alloc | apply pw_below_drewN | apply below_drew1 | refine below_set ?_ GE253.out) | exact HB.out)) hb); clear BK253; clear HB; have HO256 := n0_; have BK253 := n1_; have HB := n2_; clear n0_ n1_ n2_; (try clear hb); (try clear hb2); (try clear hk); (try clear hi); (try clear ho0); obtain ⟨Ao194, co194, eo194⟩ := Kd.N_slice HO256.out; subst eo194; have hcz195_0 : w193.cell? ⟨gb253, 0, none⟩ = some (.slice A0_0 l0_0.length c0_0) := (blk_cell BK253.out 0).trans rfl; have hfz195_0 := blk_frozen BK253.out 0) | (go_at_call 17; (with_reducible refine (cavilref13_Sound.calls k _ _ t254 t257 t258 _ ?side1 ?side2 A4.out).mono ?_); (case side1 => refine (Kd.N_reads' (e := 33) (base := w.heap.size) (ok := fun k_ => k_ ≠ gb253) (n := t254.length) (c := co194) ?_).2.2; exact (by (with_reducible repeat (first | apply Kd.N_alloc | apply Kd.N_drewN | apply Kd.N_drew)); exact (Kd.N_mono (Kd.N_far (p := ⟨gb253, 0, none⟩) (Kd.N_mono HO256.out (fun k_ hk => (⟨hk, hk⟩ : _ ∧ k_ ≠ gb253))) (fun _ hk => hk.2) (.slice Ao194 t254.length co194)) (fun _ h_ => h_.1)))); (case side2 => exact (Kd.N_reads' HO256.out).2.1); rintro e w196 ⟨rfl, hb⟩; have n0_ := Aside0.mk (Kd.N_below (by (with_reducible repeat (first | apply Kd.N_alloc | apply Kd.N_drewN | apply Kd.N_drew)); exact (Kd.N_mono (Kd.N_far (p := ⟨gb253, 0, none⟩) (Kd.N_mono HO256.out (fun k_ hk => (⟨hk, hk⟩ : _ ∧ k_ ≠ gb253))) (fun _ hk => hk.2) (.slice Ao194 t254.length co194)) (fun _ h_ => h_.1))) hb); have n1_ := Aside0.mk (blk_below (g := gb253) (o := .cells #[.slice Ao194 t254.length co194] 24 (0, 0)) (by (with_reducible repeat (first | refine blk_drewN ?_ _ | refine blk_drew ?_ | refine blk_alloc ?_ _)); refine blk_put (cs := #[.slice A0_0 l0_0.length c0_0]) ?_ 0 _ rfl; (with_reducible repeat (first | refine blk_drewN ?_ _ | refine blk_drew ?_ | refine blk_alloc ?_ _)); exact BK253.out) hb); have n2_ := Aside0.mk (below_step (by repeat (first | (with_reducible first | exact HB.out | apply below_alloc | apply pw_below_drewN | apply below_drew1 | refine below_set ?_ GE253.out) | exact HB.out)) hb); clear HO256; clear BK253; clear HB; have HO256 := n0_; have BK253 := n1_; have HB := n2_; clear n0_ n1_ n2_; (try clear hb); (try clear hb2); (try clear hk); (try clear hi); have hcz197_0 : w196.cell? ⟨gb253, 0, none⟩ = some (.slice Ao194 t254.length co194) := (blk_cell BK253.out 0).trans rfl; have hfz197_0 := blk_frozen BK253.out 0) | (go_at_call 18; (with_reducible refine (cavillaw13_far.calls _ _ t254 false _ ?side1 ?side2 A5.out).mono ?_); (case side1 => repeat (first | exact (Kd.N_reads' HO256.out).2.2 | (with_reducible refine Kd.C_alloc ?_ _) | (with_reducible refine Kd.C_drewN ?_ _) | (with_reducible refine Kd.C_drew ?_))); (case side2 => exact (Kd.N_reads' HO256.out).2.1); rintro e w198 ⟨rfl, hb⟩; have n0_ := Aside0.mk (Kd.N_below (by (with_reducible repeat (first | apply Kd.N_alloc | apply Kd.N_drewN | apply Kd.N_drew)); exact HO256.out) hb); have n1_ := Aside0.mk (blk_below (g := gb253) (o := .cells #[.slice Ao194 t254.length co194] 24 (0, 0)) (by (with_reducible repeat (first | refine blk_drewN ?_ _ | refine blk_drew ?_ | refine blk_alloc ?_ _)); exact BK253.out) hb); have n2_ := Aside0.mk (below_step (by repeat (first | (with_reducible first | exact HB.out | apply below_alloc | apply pw_below_drewN | apply below_drew1 | refine below_set ?_ GE253.out) | exact HB.out)) hb); clear HO256; clear BK253; clear HB; have HO256 := n0_; have BK253 := n1_; have HB := n2_; clear n0_ n1_ n2_; (try clear hb); (try clear hb2); (try clear hk); (try clear hi); have hcz199_0 : w198.cell? ⟨gb253, 0, none⟩ = some (.slice Ao194 t254.length co194) := (blk_cell BK253.out 0).trans rfl; have hfz199_0 := blk_frozen BK253.out 0) | (go_at_call 19; (with_reducible refine (tree_Depth.calls k _ _ t254 t261 t262 _ ?side1 ?side2 A17.out).mono ?_); (case side1 => repeat (first | exact (Kd.N_reads' HO256.out).2.2 | (with_reducible refine Kd.C_alloc ?_ _) | (with_reducible refine Kd.C_drewN ?_ _) | (with_reducible refine Kd.C_drew ?_))); (case side2 => exact (Kd.N_reads' HO256.out).2.1); rintro e w200 ⟨rfl, hb⟩; have n0_ := Aside0.mk (Kd.N_below (by (with_reducible repeat (first | apply Kd.N_alloc | apply Kd.N_drewN | apply Kd.N_drew)); exact HO256.out) hb); have n1_ := Aside0.mk (blk_below (g := gb253) (o := .cells #[.slice Ao194 t254.length co194] 24 (0, 0)) (by (with_reducible repeat (first | refine blk_drewN ?_ _ | refine blk_drew ?_ | refine blk_alloc ?_ _)); exact BK253.out) hb); have n2_ := Aside0.mk (below_step (by repeat (first | (with_reducible first | exact HB.out | apply below_alloc | apply pw_below_drewN | apply below_drew1 | refine below_set ?_ GE253.out) | exact HB.out)) hb); clear HO256; clear BK253; clear HB; have HO256 := n0_; have BK253 := n1_; have HB := n2_; clear n0_ n1_ n2_; (try clear hb); (try clear hb2); (try clear hk); (try clear hi); (try simp only [errW_none, errW_some, erT_no, erV_no, erT_at, erV_at]); have hcz201_0 : w200.cell? ⟨gb253, 0, none⟩ = some (.slice Ao194 t254.length co194) := (blk_cell BK253.out 0).trans rfl; have hfz201_0 := blk_frozen BK253.out 0) | (go_at_call 20; (with_reducible refine (tree_Parents.calls k _ _ t254 t263 t266 _ ?side1 ?side2 A18.out).mono ?_); (case side1 => repeat (first | exact (Kd.N_reads' HO256.out).2.2 | (with_reducible refine Kd.C_alloc ?_ _) | (with_reducible refine Kd.C_drewN ?_ _) | (with_reducible refine Kd.C_drew ?_))); (case side2 => exact (Kd.N_reads' HO256.out).2.1); rintro e w202 ⟨v264, rfl, ho0, hb⟩; have n0_ := Aside0.mk (Kd.N_elder' (by (with_reducible repeat (first | apply Kd.N_alloc | apply Kd.N_drewN | apply Kd.N_drew)); exact HO256.out) (Kd.R_base ho0) hb); have n1_ := Aside0.mk (Kd.R_lower ho0 (below_size (by repeat (first | (with_reducible first | exact HB.out | apply below_alloc | apply pw_below_drewN | apply below_drew1 | refine below_set ?_ GE253.out) | exact HB.out)))); have n2_ := Aside0.mk (blk_below (g := gb253) (o := .cells #[.slice Ao194 t254.length co194] 24 (0, 0)) (by (with_reducible repeat (first | refine blk_drewN ?_ _ | refine blk_drew ?_ | refine blk_alloc ?_ _)); exact BK253.out) hb); have n3_ := Aside0.mk (below_step (by repeat (first | (with_reducible first | exact HB.out | apply below_alloc | apply pw_below_drewN | apply below_drew1 | refine below_set ?_ GE253.out) | exact HB.out)) hb); clear HO256; clear BK253; clear HB; have HO256 := n0_; have HO265 := n1_; have BK253 := n2_; have HB := n3_; clear n0_ n1_ n2_ n3_; (try clear hb); (try clear hb2); (try clear hk); (try clear hi); (try clear ho0); (try simp only [errW_none, errW_some, erT_no, erV_no, erT_at, erV_at]); have hcz203_0 : w202.cell? ⟨gb253, 0, none⟩ = some (.slice Ao194 t254.length co194) := (blk_cell BK253.out 0).trans rfl; have hfz203_0 := blk_frozen BK253.out 0) | (go_at_call 21; (with_reducible refine (tree_Own.calls k _ _ t254 a1 t267 t270 _ ?side1 ?side2 A19.out).mono ?_); (case side1 => repeat (first | exact (Kd.N_reads' HO256.out).2.2 | (with_reducible refine Kd.C_alloc ?_ _) | (with_reducible refine Kd.C_drewN ?_ _) | (with_reducible refine Kd.C_drew ?_))); (case side2 => exact (Kd.N_reads' HO256.out).2.1); rintro e w204 ⟨v268, rfl, ho0, hb⟩; have n0_ := Aside0.mk (Kd.N_elder' (by (with_reducible repeat (first | apply Kd.N_alloc | apply Kd.N_drewN | apply Kd.N_drew)); exact HO256.out) (Kd.R_base ho0) hb); have n1_ := Aside0.mk (Kd.R_elder' (by (with_reducible repeat (first | apply Kd.R_alloc | apply Kd.R_drewN | apply Kd.R_drew)); exact HO265.out) (Kd.R_base ho0) hb); have n2_ := Aside0.mk (Kd.R_lower (Kd.R_new' ho0 (Kd.R_lt (by (with_reducible repeat (first | apply Kd.R_alloc | apply Kd.R_drewN | apply Kd.R_drew)); exact HO265.out))) (below_size (by repeat (first | (with_reducible first | exact HB.out | apply below_alloc | apply pw_below_drewN | apply below_drew1 | refine below_set ?_ GE253.out) | exact HB.out)))); have n3_ := Aside0.mk (blk_below (g := gb253) (o := .cells #[.slice Ao194 t254.length co194] 24 (0, 0)) (by (with_reducible repeat (first | refine blk_drewN ?_ _ | refine blk_drew ?_ | refine blk_alloc ?_ _)); exact BK253.out) hb); have n4_ := Aside0.mk (below_step (by repeat (first | (with_reducible first | exact HB.out | apply below_alloc | apply pw_below_drewN | apply below_drew1 | refine below_set ?_ GE253.out) | exact HB.out)) hb); clear HO256; clear HO265; clear BK253; clear HB; have HO256 := n0_; have HO265 := n1_; have HO269 := n2_; have BK253 := n3_; have HB := n4_; clear n0_ n1_ n2_ n3_ n4_; (try clear hb); (try clear hb2); (try clear hk); (try clear hi); (try clear ho0); (try simp only [errW_none, errW_some, erT_no, erV_no, erT_at, erV_at]); have CA86 := fun W => cavillaw01_Code.calls k t262 t271 W A86.out; try simp only [errW_none, errW_some, erT_no, erV_no, erT_at, erV_at] at CA86) | (go_at_call 13; (with_reducible refine (CA86 _).mono ?_); rintro e w205 ⟨rfl, hb⟩; have n0_ := Aside0.mk (Kd.N_below (by (with_reducible repeat (first | apply Kd.N_alloc | apply Kd.N_drewN | apply Kd.N_drew)); exact HO256.out) hb); have n1_ := Aside0.mk (Kd.R_below (by (with_reducible repeat (first | apply Kd.R_alloc | apply Kd.R_drewN | apply Kd.R_drew)); exact HO265.out) hb); have n2_ := Aside0.mk (Kd.R_below (by (with_reducible repeat (first | apply Kd.R_alloc | apply Kd.R_drewN | apply Kd.R_drew)); exact HO269.out) hb); have n3_ := Aside0.mk (blk_below (g := gb253) (o := .cells #[.slice Ao194 t254.length co194] 24 (0, 0)) (by (with_reducible repeat (first | refine blk_drewN ?_ _ | refine blk_drew ?_ | refine blk_alloc ?_ _)); exact BK253.out) hb); have n4_ := Aside0.mk (below_step (by repeat (first | (with_reducible first | exact HB.out | apply below_alloc | apply pw_below_drewN | apply below_drew1 | refine below_set ?_ GE253.out) | exact HB.out)) hb); clear HO256; clear HO265; clear HO269; clear BK253; clear HB; have HO256 := n0_; have HO265 := n1_; have HO269 := n2_; have BK253 := n3_; have HB := n4_; clear n0_ n1_ n2_ n3_ n4_; (try clear hb); (try clear hb2); (try clear hk); (try clear hi); have CA88 := fun W hg_ => cavillaw01_Off.calls t262 t272 W hg_ A88.out; try simp only [errW_none, errW_some, erT_no, erV_no, erT_at, erV_at] at CA88) | (go_at_call 14; (with_reducible refine (CA88 _ ?sideg).mono ?_); (case sideg => repeat (first | exact (GL_below HG.out HB.out) | exact HG.out | (with_reducible refine GL_alloc ?_ _) | (with_reducible refine GL_drewN ?_ _) | (with_reducible refine GL_drew ?_))); rintro e w206 ⟨rfl, hb⟩; have n0_ := Aside0.mk (Kd.N_below (by (with_reducible repeat (first | apply Kd.N_alloc | apply Kd.N_drewN | apply Kd.N_drew)); exact HO256.out) hb); have n1_ := Aside0.mk (Kd.R_below (by (with_reducible repeat (first | apply Kd.R_alloc | apply Kd.R_drewN | apply Kd.R_drew)); exact HO265.out) hb); have n2_ := Aside0.mk (Kd.R_below (by (with_reducible repeat (first | apply Kd.R_alloc | apply Kd.R_drewN | apply Kd.R_drew)); exact HO269.out) hb); have n3_ := Aside0.mk (blk_below (g := gb253) (o := .cells #[.slice Ao194 t254.length co194] 24 (0, 0)) (by (with_reducible repeat (first | refine blk_drewN ?_ _ | refine blk_drew ?_ | refine blk_alloc ?_ _)); exact BK253.out) hb); have n4_ := Aside0.mk (below_step (by repeat (first | (with_reducible first | exact HB.out | apply below_alloc | apply pw_below_drewN | apply below_drew1 | refine below_set ?_ GE253.out) | exact HB.out)) hb); clear HO256; clear HO265; clear HO269; clear BK253; clear HB; have HO256 := n0_; have HO265 := n1_; have HO269 := n2_; have BK253 := n3_; have HB := n4_; clear n0_ n1_ n2_ n3_ n4_; (try clear hb); (try clear hb2); (try clear hk); (try clear hi)))
          go_ret
          exact ⟨by first | rfl | (simp [errW_none, errW_some, erT_no, erV_no, erT_at, erV_at] <;> rfl) | (simp [*, errW_none, errW_some, erT_no, erV_no, erT_at, erV_at] <;> rfl), by repeat (first | (with_reducible first | exact HB.out | apply below_alloc | apply pw_below_drewN | apply below_drew1 | refine below_set ?_ GE253.out) | exact HB.out)⟩
      · rw [if_neg c87] at H
        have c87b0 : (t271 == t257) = false := beq_eq_false_iff_ne.mpr c87
        have c87b1 : (t271 != t257) = true := bne_iff_ne.mpr c87
        obtain rfl := Option.some.inj H
        go_enter Tryd.func4, Tryd.ntmps4
        go_wp2_with (first | ((with_reducible refine gate_dst (N := 2) rfl ?_); (try (refine gate_guard (by rfl) ?_; dsimp only)); refine box_event ?hg (N := 2) ?hd (cs := #[.slice A0_0 l0_0.length c0_0]) (t := 24) ?hr ?_; (case hd => rfl); (case hg => rfl); (case hr => first | (go_simp; done) | (go_simp; rfl)); intro gb253 hg w207 hbox hb; have n0_ := Aside0.mk (below_step (by repeat (first | (with_reducible first | exact HB.out | apply below_alloc | apply pw_below_drewN | apply below_drew1) | exact HB.out)) hb); have n1_ := Aside0.mk (hbox); have n2_ := Aside0.mk ((by rw [hg]; exact (below_size (by repeat (first | (with_reducible first | exact HB.out | apply below_alloc | apply pw_below_drewN | apply below_drew1) | exact HB.out))) : w.heap.size ≤ gb253)); have n3_ := Aside0.mk ((by rw [hg]; exact (below_size (by repeat (first | (with_reducible first | exact HB.out | apply below_alloc | apply pw_below_drewN | apply below_drew1) | exact HB.out))) : w.heap.size ≤ gb253)); clear HB; have HB := n0_; have BK253 := n1_; have GW253 := n2_; have GE253 := n3_; clear n0_ n1_ n2_ n3_; clear hb hbox hg; have hcz208_0 : w207.cell? ⟨gb253, 0, none⟩ = some (.slice A0_0 l0_0.length c0_0) := (blk_cell BK253.out 0).trans rfl; have hfz208_0 := blk_frozen BK253.out 0) | (go_at_call 10; (with_reducible refine (cavillaw13_Few.calls k (fun k_ => k_ < w.heap.size) _ _ l0_0 t254 _ ?side1 A3.out).mono ?_); (case side1 => exact Kd.V_mk HC0_0.out (Kd.F_below (Kd.C_F k33_heap HR0_0.out) (by repeat (first | (with_reducible first | exact HB.out | apply below_alloc | apply pw_below_drewN | apply below_drew1 | refine below_set ?_ GE253.out) | exact HB.out)))); rintro e w209 ⟨v255, rfl, ho0, hb⟩; have n0_ := Aside0.mk (Kd.N_lower (Kd.N_mono (ok' := fun k_ => k_ ≠ gb253) ho0 (fun k_ hk_ => Or.elim hk_ (fun hs_ => fun e_ => Nat.not_le.2 hs_ (by rw [e_]; exact GW253.out)) (fun hn_ => (Kd.freshB (g := gb253) (o := .cells #[.slice A0_0 l0_0.length c0_0] 24 (0, 0)) (by (with_reducible repeat (first | refine blk_drewN ?_ _ | refine blk_drew ?_ | refine blk_alloc ?_ _)); exact BK253.out) k_ hn_)))) (below_size (by repeat (first | (with_reducible first | exact HB.out | apply below_alloc | apply pw_below_drewN | apply below_drew1 | refine below_set ?_ GE253.out) | exact HB.out)))); have n1_ := Aside0.mk (blk_below (g := gb253) (o := .cells #[.slice A0_0 l0_0.length c0_0] 24 (0, 0)) (by (with_reducible repeat (first | refine blk_drewN ?_ _ | refine blk_drew ?_ | refine blk_alloc ?_ _)); exact BK253.out) hb); have n2_ := Aside0.mk (below_step (by repeat (first | (with_reducible first | exact HB.out | apply below_alloc | apply pw_below_drewN | apply below_drew1 | refine below_set ?_ GE253.out) | exact HB.out)) hb); clear BK253; clear HB; have HO256 := n0_; have BK253 := n1_; have HB := n2_; clear n0_ n1_ n2_; (try clear hb); (try clear hb2); (try clear hk); (try clear hi); (try clear ho0); obtain ⟨Ao210, co210, eo210⟩ := Kd.N_slice HO256.out; subst eo210; have hcz211_0 : w209.cell? ⟨gb253, 0, none⟩ = some (.slice A0_0 l0_0.length c0_0) := (blk_cell BK253.out 0).trans rfl; have hfz211_0 := blk_frozen BK253.out 0) | (go_at_call 17; (with_reducible refine (cavilref13_Sound.calls k _ _ t254 t257 t258 _ ?side1 ?side2 A4.out).mono ?_); (case side1 => refine (Kd.N_reads' (e := 33) (base := w.heap.size) (ok := fun k_ => k_ ≠ gb253) (n := t254.length) (c := co210) ?_).2.2; exact (by (with_reducible repeat (first | apply Kd.N_alloc | apply Kd.N_drewN | apply Kd.N_drew)); exact (Kd.N_mono (Kd.N_far (p := ⟨gb253, 0, none⟩) (Kd.N_mono HO256.out (fun k_ hk => (⟨hk, hk⟩ : _ ∧ k_ ≠ gb253))) (fun _ hk => hk.2) (.slice Ao210 t254.length co210)) (fun _ h_ => h_.1)))); (case side2 => exact (Kd.N_reads' HO256.out).2.1); rintro e w212 ⟨rfl, hb⟩; have n0_ := Aside0.mk (Kd.N_below (by (with_reducible repeat (first | apply Kd.N_alloc | apply Kd.N_drewN | apply Kd.N_drew)); exact (Kd.N_mono (Kd.N_far (p := ⟨gb253, 0, none⟩) (Kd.N_mono HO256.out (fun k_ hk => (⟨hk, hk⟩ : _ ∧ k_ ≠ gb253))) (fun _ hk => hk.2) (.slice Ao210 t254.length co210)) (fun _ h_ => h_.1))) hb); have n1_ := Aside0.mk (blk_below (g := gb253) (o := .cells #[.slice Ao210 t254.length co210] 24 (0, 0)) (by (with_reducible repeat (first | refine blk_drewN ?_ _ | refine blk_drew ?_ | refine blk_alloc ?_ _)); refine blk_put (cs := #[.slice A0_0 l0_0.length c0_0]) ?_ 0 _ rfl; (with_reducible repeat (first | refine blk_drewN ?_ _ | refine blk_drew ?_ | refine blk_alloc ?_ _)); exact BK253.out) hb); have n2_ := Aside0.mk (below_step (by repeat (first | (with_reducible first | exact HB.out | apply below_alloc | apply pw_below_drewN | apply below_drew1 | refine below_set ?_ GE253.out) | exact HB.out)) hb); clear HO256; clear BK253; clear HB; have HO256 := n0_; have BK253 := n1_; have HB := n2_; clear n0_ n1_ n2_; (try clear hb); (try clear hb2); (try clear hk); (try clear hi); have hcz213_0 : w212.cell? ⟨gb253, 0, none⟩ = some (.slice Ao210 t254.length co210) := (blk_cell BK253.out 0).trans rfl; have hfz213_0 := blk_frozen BK253.out 0) | (go_at_call 18; (with_reducible refine (cavillaw13_far.calls _ _ t254 false _ ?side1 ?side2 A5.out).mono ?_); (case side1 => repeat (first | exact (Kd.N_reads' HO256.out).2.2 | (with_reducible refine Kd.C_alloc ?_ _) | (with_reducible refine Kd.C_drewN ?_ _) | (with_reducible refine Kd.C_drew ?_))); (case side2 => exact (Kd.N_reads' HO256.out).2.1); rintro e w214 ⟨rfl, hb⟩; have n0_ := Aside0.mk (Kd.N_below (by (with_reducible repeat (first | apply Kd.N_alloc | apply Kd.N_drewN | apply Kd.N_drew)); exact HO256.out) hb); have n1_ := Aside0.mk (blk_below (g := gb253) (o := .cells #[.slice Ao210 t254.length co210] 24 (0, 0)) (by (with_reducible repeat (first | refine blk_drewN ?_ _ | refine blk_drew ?_ | refine blk_alloc ?_ _)); exact BK253.out) hb); have n2_ := Aside0.mk (below_step (by repeat (first | (with_reducible first | exact HB.out | apply below_alloc | apply pw_below_drewN | apply below_drew1 | refine below_set ?_ GE253.out) | exact HB.out)) hb); clear HO256; clear BK253; clear HB; have HO256 := n0_; have BK253 := n1_; have HB := n2_; clear n0_ n1_ n2_; (try clear hb); (try clear hb2); (try clear hk); (try clear hi); have hcz215_0 : w214.cell? ⟨gb253, 0, none⟩ = some (.slice Ao210 t254.length co210) := (blk_cell BK253.out 0).trans rfl; have hfz215_0 := blk_frozen BK253.out 0) | (go_at_call 19; (with_reducible refine (tree_Depth.calls k _ _ t254 t261 t262 _ ?side1 ?side2 A17.out).mono ?_); (case side1 => repeat (first | exact (Kd.N_reads' HO256.out).2.2 | (with_reducible refine Kd.C_alloc ?_ _) | (with_reducible refine Kd.C_drewN ?_ _) | (with_reducible refine Kd.C_drew ?_))); (case side2 => exact (Kd.N_reads' HO256.out).2.1); rintro e w216 ⟨rfl, hb⟩; have n0_ := Aside0.mk (Kd.N_below (by (with_reducible repeat (first | apply Kd.N_alloc | apply Kd.N_drewN | apply Kd.N_drew)); exact HO256.out) hb); have n1_ := Aside0.mk (blk_below (g := gb253) (o := .cells #[.slice Ao210 t254.length co210] 24 (0, 0)) (by (with_reducible repeat (first | refine blk_drewN ?_ _ | refine blk_drew ?_ | refine blk_alloc ?_ _)); exact BK253.out) hb); have n2_ := Aside0.mk (below_step (by repeat (first | (with_reducible first | exact HB.out | apply below_alloc | apply pw_below_drewN | apply below_drew1 | refine below_set ?_ GE253.out) | exact HB.out)) hb); clear HO256; clear BK253; clear HB; have HO256 := n0_; have BK253 := n1_; have HB := n2_; clear n0_ n1_ n2_; (try clear hb); (try clear hb2); (try clear hk); (try clear hi); (try simp only [errW_none, errW_some, erT_no, erV_no, erT_at, erV_at]); have hcz217_0 : w216.cell? ⟨gb253, 0, none⟩ = some (.slice Ao210 t254.length co210) := (blk_cell BK253.out 0).trans rfl; have hfz217_0 := blk_frozen BK253.out 0) | (go_at_call 20; (with_reducible refine (tree_Parents.calls k _ _ t254 t263 t266 _ ?side1 ?side2 A18.out).mono ?_); (case side1 => repeat (first | exact (Kd.N_reads' HO256.out).2.2 | (with_reducible refine Kd.C_alloc ?_ _) | (with_reducible refine Kd.C_drewN ?_ _) | (with_reducible refine Kd.C_drew ?_))); (case side2 => exact (Kd.N_reads' HO256.out).2.1); rintro e w218 ⟨v264, rfl, ho0, hb⟩; have n0_ := Aside0.mk (Kd.N_elder' (by (with_reducible repeat (first | apply Kd.N_alloc | apply Kd.N_drewN | apply Kd.N_drew)); exact HO256.out) (Kd.R_base ho0) hb); have n1_ := Aside0.mk (Kd.R_lower ho0 (below_size (by repeat (first | (with_reducible first | exact HB.out | apply below_alloc | apply pw_below_drewN | apply below_drew1 | refine below_set ?_ GE253.out) | exact HB.out)))); have n2_ := Aside0.mk (blk_below (g := gb253) (o := .cells #[.slice Ao210 t254.length co210] 24 (0, 0)) (by (with_reducible repeat (first | refine blk_drewN ?_ _ | refine blk_drew ?_ | refine blk_alloc ?_ _)); exact BK253.out) hb); have n3_ := Aside0.mk (below_step (by repeat (first | (with_reducible first | exact HB.out | apply below_alloc | apply pw_below_drewN | apply below_drew1 | refine below_set ?_ GE253.out) | exact HB.out)) hb); clear HO256; clear BK253; clear HB; have HO256 := n0_; have HO265 := n1_; have BK253 := n2_; have HB := n3_; clear n0_ n1_ n2_ n3_; (try clear hb); (try clear hb2); (try clear hk); (try clear hi); (try clear ho0); (try simp only [errW_none, errW_some, erT_no, erV_no, erT_at, erV_at]); have hcz219_0 : w218.cell? ⟨gb253, 0, none⟩ = some (.slice Ao210 t254.length co210) := (blk_cell BK253.out 0).trans rfl; have hfz219_0 := blk_frozen BK253.out 0) | (go_at_call 21; (with_reducible refine (tree_Own.calls k _ _ t254 a1 t267 t270 _ ?side1 ?side2 A19.out).mono ?_); (case side1 => repeat (first | exact (Kd.N_reads' HO256.out).2.2 | (with_reducible refine Kd.C_alloc ?_ _) | (with_reducible refine Kd.C_drewN ?_ _) | (with_reducible refine Kd.C_drew ?_))); (case side2 => exact (Kd.N_reads' HO256.out).2.1); rintro e w220 ⟨v268, rfl, ho0, hb⟩; have n0_ := Aside0.mk (Kd.N_elder' (by (with_reducible repeat (first | apply Kd.N_alloc | apply Kd.N_drewN | apply Kd.N_drew)); exact HO256.out) (Kd.R_base ho0) hb); have n1_ := Aside0.mk (Kd.R_elder' (by (with_reducible repeat (first | apply Kd.R_alloc | apply Kd.R_drewN | apply Kd.R_drew)); exact HO265.out) (Kd.R_base ho0) hb); have n2_ := Aside0.mk (Kd.R_lower (Kd.R_new' ho0 (Kd.R_lt (by (with_reducible repeat (first | apply Kd.R_alloc | apply Kd.R_drewN | apply Kd.R_drew)); exact HO265.out))) (below_size (by repeat (first | (with_reducible first | exact HB.out | apply below_alloc | apply pw_below_drewN | apply below_drew1 | refine below_set ?_ GE253.out) | exact HB.out)))); have n3_ := Aside0.mk (blk_below (g := gb253) (o := .cells #[.slice Ao210 t254.length co210] 24 (0, 0)) (by (with_reducible repeat (first | refine blk_drewN ?_ _ | refine blk_drew ?_ | refine blk_alloc ?_ _)); exact BK253.out) hb); have n4_ := Aside0.mk (below_step (by repeat (first | (with_reducible first | exact HB.out | apply below_alloc | apply pw_below_drewN | apply below_drew1 | refine below_set ?_ GE253.out) | exact HB.out)) hb); clear HO256; clear HO265; clear BK253; clear HB; have HO256 := n0_; have HO265 := n1_; have HO269 := n2_; have BK253 := n3_; have HB := n4_; clear n0_ n1_ n2_ n3_ n4_; (try clear hb); (try clear hb2); (try clear hk); (try clear hi); (try clear ho0); (try simp only [errW_none, errW_some, erT_no, erV_no, erT_at, erV_at]); have CA86 := fun W => cavillaw01_Code.calls k t262 t271 W A86.out; try simp only [errW_none, errW_some, erT_no, erV_no, erT_at, erV_at] at CA86) | (go_at_call 13; (with_reducible refine (CA86 _).mono ?_); rintro e w221 ⟨rfl, hb⟩; have n0_ := Aside0.mk (Kd.N_below (by (with_reducible repeat (first | apply Kd.N_alloc | apply Kd.N_drewN | apply Kd.N_drew)); exact HO256.out) hb); have n1_ := Aside0.mk (Kd.R_below (by (with_reducible repeat (first | apply Kd.R_alloc | apply Kd.R_drewN | apply Kd.R_drew)); exact HO265.out) hb); have n2_ := Aside0.mk (Kd.R_below (by (with_reducible repeat (first | apply Kd.R_alloc | apply Kd.R_drewN | apply Kd.R_drew)); exact HO269.out) hb); have n3_ := Aside0.mk (blk_below (g := gb253) (o := .cells #[.slice Ao210 t254.length co210] 24 (0, 0)) (by (with_reducible repeat (first | refine blk_drewN ?_ _ | refine blk_drew ?_ | refine blk_alloc ?_ _)); exact BK253.out) hb); have n4_ := Aside0.mk (below_step (by repeat (first | (with_reducible first | exact HB.out | apply below_alloc | apply pw_below_drewN | apply below_drew1 | refine below_set ?_ GE253.out) | exact HB.out)) hb); clear HO256; clear HO265; clear HO269; clear BK253; clear HB; have HO256 := n0_; have HO265 := n1_; have HO269 := n2_; have BK253 := n3_; have HB := n4_; clear n0_ n1_ n2_ n3_ n4_; (try clear hb); (try clear hb2); (try clear hk); (try clear hi)))
        go_ret
        exact ⟨by first | rfl | (simp [errW_none, errW_some, erT_no, erV_no, erT_at, erV_at] <;> rfl) | (simp [*, errW_none, errW_some, erT_no, erV_no, erT_at, erV_at] <;> rfl), by repeat (first | (with_reducible first | exact HB.out | apply below_alloc | apply pw_below_drewN | apply below_drew1 | refine below_set ?_ GE253.out) | exact HB.out)⟩

end Go.Proofs.YtnpgadfoohjlnaaDoor.QT
