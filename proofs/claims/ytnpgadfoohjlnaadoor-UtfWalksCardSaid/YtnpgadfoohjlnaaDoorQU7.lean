/- Where a Lean function of this text answers, the Go function of its name comes to that answer: no other condition. Written by a program of this session out of the translation; Lean checks it. -/
import Derived.Test.YtnpgadfoohjlnaaDoorQU0
import Derived.Test.YtnpgadfoohjlnaaDoorQU1
import Derived.Test.YtnpgadfoohjlnaaDoorQU2
import Derived.Test.YtnpgadfoohjlnaaDoorQU3
namespace Go.Proofs.YtnpgadfoohjlnaaDoor.QU
open Go.RowKit Go.Proofs.YtnpgadfoohjlnaaDoorW.PrintWords Go.Proofs.YtnpgadfoohjlnaaDoorW.PrintLast Go.Proofs.YtnpgadfoohjlnaaDoorW.PrintMore Go.Proofs.YtnpgadfoohjlnaaDoorW.PrintX
attribute [local go_sem] max2_int min2_int max_two min_two max_three min_three max_four min_four   -- for this text's walks alone
set_option linter.unusedVariables false
set_option linter.unusedSimpArgs false

/-! ### cavillaw01_UtfBack: function 6 -/
mutual
def cavillaw01_UtfBack.j0 : Nat → List Int → List Int → Int → Bool → Option (Bool)
  | 0, _, _, _, _ => none
  | k + 1, x1, x9, x11, x76 => if x76 = true then (some false) else (cavillaw01_UtfBack.l0 k x1 x9 x11 1)
def cavillaw01_UtfBack.l0 : Nat → List Int → List Int → Int → Int → Option (Bool)
  | 0, _, _, _, _ => none
  | k + 1, x1, x9, x11, x13 => if x13 < x11 then ((utf_Boundary.f x9 (wrap64 ((x1.length : Int) + x13))).bind fun t272 => (if t272 = true then (some false) else (cavillaw01_UtfBack.l0 k x1 x9 x11 (wrap64 (x13 + 1))))) else ((cavillaw01_works.f k).bind fun t273 => (some t273))
end
def cavillaw01_UtfBack.f (k : Nat) (a0 : Int) (l1 : List Int) (l2 : List Int) : Option (Bool) := if 0 ≤ (mn (l1.length : Int) 100) then (if (mn (l1.length : Int) 100) ≤ (l1.length : Int) then ((some (l1.take ((mn (l1.length : Int) 100) : Int).toNat : List Int)).bind fun y240 => (if 0 ≤ (mn (l2.length : Int) 100) then (if (mn (l2.length : Int) 100) ≤ (l2.length : Int) then ((some (l2.take ((mn (l2.length : Int) 100) : Int).toNat : List Int)).bind fun y244 => ((utf_Encode.f a0).bind fun bt248 => (if bt248.2.isNone = true then ((some (([] : List Int) : List Int)).bind fun y253 => (if y253.length + y240.length < 140737488355328 then ((some (y253 ++ y240 : List Int)).bind fun y256 => (if y256.length + bt248.1.length < 140737488355328 then ((some (y256 ++ bt248.1 : List Int)).bind fun y259 => (if y259.length + y244.length < 140737488355328 then ((some (y259 ++ y244 : List Int)).bind fun y262 => ((utf_Decode.f k y262 (y240.length : Int)).bind fun bt265 => (if bt265.2.2.isNone = true then (if bt265.1 = a0 then (if bt265.2.1 = (bt248.1.length : Int) then ((utf_Check.f k bt248.1).bind fun t269 => (if t269.isNone = true then ((utf_Boundary.f y262 (y240.length : Int)).bind fun t271 => (cavillaw01_UtfBack.j0 k y240 y262 bt265.2.1 (!t271))) else (cavillaw01_UtfBack.j0 k y240 y262 bt265.2.1 true))) else (cavillaw01_UtfBack.j0 k y240 y262 bt265.2.1 true)) else (cavillaw01_UtfBack.j0 k y240 y262 bt265.2.1 true)) else (cavillaw01_UtfBack.j0 k y240 y262 bt265.2.1 true)))) else (none))) else (none))) else (none))) else (if (bt248.1.length : Int) = 0 then ((cavillaw01_works.f k).bind fun t274 => (some t274)) else (some false))))) else (none)) else (none))) else (none)) else (none)
theorem cavillaw01_UtfBack.mono_l : ∀ k, (∀ y0 y1 y2 y3, LeO (cavillaw01_UtfBack.j0 k y0 y1 y2 y3) (cavillaw01_UtfBack.j0 (k + 1) y0 y1 y2 y3)) ∧ (∀ y0 y1 y2 y3, LeO (cavillaw01_UtfBack.l0 k y0 y1 y2 y3) (cavillaw01_UtfBack.l0 (k + 1) y0 y1 y2 y3))
  | 0 => ⟨fun _ _ _ _ r h => by simp [cavillaw01_UtfBack.j0] at h, fun _ _ _ _ r h => by simp [cavillaw01_UtfBack.l0] at h⟩
  | k + 1 => by
    obtain ⟨ih0, ih1⟩ := cavillaw01_UtfBack.mono_l k
    refine ⟨?_, ?_⟩
    · intro y0 y1 y2 y3
      unfold cavillaw01_UtfBack.j0
      repeat' first
      | (with_reducible exact ih0 _ _ _ _)
      | (with_reducible exact ih1 _ _ _ _)
      | (with_reducible exact cavillaw01_works.mono _)
      | (with_reducible exact utf_Check.mono _ _)
      | (with_reducible exact utf_Decode.mono _ _ _)
      | (with_reducible exact LeO.refl _)
      | (with_reducible exact LeO.none _)
      | (with_reducible refine LeO.ite ?_ ?_)
      | (with_reducible refine LeO.bind ?_ (fun _ => ?_))
      | exact ih0 _ _ _ _
      | exact ih1 _ _ _ _
      | exact cavillaw01_works.mono _
      | exact utf_Check.mono _ _
      | exact utf_Decode.mono _ _ _
      | exact LeO.none _
      | refine LeO.ite ?_ ?_
      | refine LeO.bind ?_ (fun _ => ?_)
    · intro y0 y1 y2 y3
      unfold cavillaw01_UtfBack.l0
      repeat' first
      | (with_reducible exact ih0 _ _ _ _)
      | (with_reducible exact ih1 _ _ _ _)
      | (with_reducible exact cavillaw01_works.mono _)
      | (with_reducible exact utf_Check.mono _ _)
      | (with_reducible exact utf_Decode.mono _ _ _)
      | (with_reducible exact LeO.refl _)
      | (with_reducible exact LeO.none _)
      | (with_reducible refine LeO.ite ?_ ?_)
      | (with_reducible refine LeO.bind ?_ (fun _ => ?_))
      | exact ih0 _ _ _ _
      | exact ih1 _ _ _ _
      | exact cavillaw01_works.mono _
      | exact utf_Check.mono _ _
      | exact utf_Decode.mono _ _ _
      | exact LeO.none _
      | refine LeO.ite ?_ ?_
      | refine LeO.bind ?_ (fun _ => ?_)
theorem cavillaw01_UtfBack.mono : ∀ a0 a1 a2 k, LeO (cavillaw01_UtfBack.f k a0 a1 a2) (cavillaw01_UtfBack.f (k + 1) a0 a1 a2) := by
  intro a0 a1 a2 k
  obtain ⟨ih0, ih1⟩ := cavillaw01_UtfBack.mono_l k
  unfold cavillaw01_UtfBack.f
  repeat' first
      | (with_reducible exact ih0 _ _ _ _)
      | (with_reducible exact ih1 _ _ _ _)
      | (with_reducible exact cavillaw01_works.mono _)
      | (with_reducible exact utf_Check.mono _ _)
      | (with_reducible exact utf_Decode.mono _ _ _)
      | (with_reducible exact LeO.refl _)
      | (with_reducible exact LeO.none _)
      | (with_reducible refine LeO.ite ?_ ?_)
      | (with_reducible refine LeO.bind ?_ (fun _ => ?_))
      | exact ih0 _ _ _ _
      | exact ih1 _ _ _ _
      | exact cavillaw01_works.mono _
      | exact utf_Check.mono _ _
      | exact utf_Decode.mono _ _ _
      | exact LeO.none _
      | refine LeO.ite ?_ ?_
      | refine LeO.bind ?_ (fun _ => ?_)
set_option maxHeartbeats 8000000 in
set_option maxRecDepth 100000 in
theorem cavillaw01_UtfBack.calls (k : Nat) (a0 : Int) (A1 : Option Addr) (c1 : Nat) (l1 : List Int) (A2 : Option Addr) (c2 : Nat) (l2 : List Int) (r : Bool) (w : World) (hG : GL_ w) (hr1 : Kd.C (Kd.int .u8) w A1 l1.length l1) (hc1 : l1.length ≤ c1) (hr2 : Kd.C (Kd.int .u8) w A2 l2.length l2) (hc2 : l2.length ≤ c2) (h : cavillaw01_UtfBack.f k a0 l1 l2 = some r) :
    Calls Tryd.prog 6 #[.int .i32 a0, .slice A1 l1.length c1, .slice A2 l2.length c2] w fun e w' => e = .returned (.bool r) ∧ Below w.heap.size w w' := by
  have hu27 := Tryd.underlying27
  have hu82 := Tryd.underlying82
  have HR1 := Aside0.mk hr1
  have HC1 := Aside0.mk hc1
  clear hr1 hc1
  have HR2 := Aside0.mk hr2
  have HC2 := Aside0.mk hc2
  clear hr2 hc2
  have HB := Aside0.mk (Below.refl w.heap.size w)
  have HG := Aside0.mk hG
  clear hG
  have H : (if 0 ≤ (mn (l1.length : Int) 100) then (if (mn (l1.length : Int) 100) ≤ (l1.length : Int) then ((some (l1.take ((mn (l1.length : Int) 100) : Int).toNat : List Int)).bind fun y240 => (if 0 ≤ (mn (l2.length : Int) 100) then (if (mn (l2.length : Int) 100) ≤ (l2.length : Int) then ((some (l2.take ((mn (l2.length : Int) 100) : Int).toNat : List Int)).bind fun y244 => ((utf_Encode.f a0).bind fun bt248 => (if bt248.2.isNone = true then ((some (([] : List Int) : List Int)).bind fun y253 => (if y253.length + y240.length < 140737488355328 then ((some (y253 ++ y240 : List Int)).bind fun y256 => (if y256.length + bt248.1.length < 140737488355328 then ((some (y256 ++ bt248.1 : List Int)).bind fun y259 => (if y259.length + y244.length < 140737488355328 then ((some (y259 ++ y244 : List Int)).bind fun y262 => ((utf_Decode.f k y262 (y240.length : Int)).bind fun bt265 => (if bt265.2.2.isNone = true then (if bt265.1 = a0 then (if bt265.2.1 = (bt248.1.length : Int) then ((utf_Check.f k bt248.1).bind fun t269 => (if t269.isNone = true then ((utf_Boundary.f y262 (y240.length : Int)).bind fun t271 => (cavillaw01_UtfBack.j0 k y240 y262 bt265.2.1 (!t271))) else (cavillaw01_UtfBack.j0 k y240 y262 bt265.2.1 true))) else (cavillaw01_UtfBack.j0 k y240 y262 bt265.2.1 true)) else (cavillaw01_UtfBack.j0 k y240 y262 bt265.2.1 true)) else (cavillaw01_UtfBack.j0 k y240 y262 bt265.2.1 true)))) else (none))) else (none))) else (none))) else (if (bt248.1.length : Int) = 0 then ((cavillaw01_works.f k).bind fun t274 => (some t274)) else (some false))))) else (none)) else (none))) else (none)) else (none)) = some r := h
  clear h
  obtain ⟨ji4, hji4⟩ : ∃ j_ : Int, (mn (l1.length : Int) 100) = j_ := ⟨_, rfl⟩
  replace H : (if 0 ≤ (ji4) then (if (ji4) ≤ (l1.length : Int) then ((some (l1.take ((ji4) : Int).toNat : List Int)).bind fun y240 => (if 0 ≤ (mn (l2.length : Int) 100) then (if (mn (l2.length : Int) 100) ≤ (l2.length : Int) then ((some (l2.take ((mn (l2.length : Int) 100) : Int).toNat : List Int)).bind fun y244 => ((utf_Encode.f a0).bind fun bt248 => (if bt248.2.isNone = true then ((some (([] : List Int) : List Int)).bind fun y253 => (if y253.length + y240.length < 140737488355328 then ((some (y253 ++ y240 : List Int)).bind fun y256 => (if y256.length + bt248.1.length < 140737488355328 then ((some (y256 ++ bt248.1 : List Int)).bind fun y259 => (if y259.length + y244.length < 140737488355328 then ((some (y259 ++ y244 : List Int)).bind fun y262 => ((utf_Decode.f k y262 (y240.length : Int)).bind fun bt265 => (if bt265.2.2.isNone = true then (if bt265.1 = a0 then (if bt265.2.1 = (bt248.1.length : Int) then ((utf_Check.f k bt248.1).bind fun t269 => (if t269.isNone = true then ((utf_Boundary.f y262 (y240.length : Int)).bind fun t271 => (cavillaw01_UtfBack.j0 k y240 y262 bt265.2.1 (!t271))) else (cavillaw01_UtfBack.j0 k y240 y262 bt265.2.1 true))) else (cavillaw01_UtfBack.j0 k y240 y262 bt265.2.1 true)) else (cavillaw01_UtfBack.j0 k y240 y262 bt265.2.1 true)) else (cavillaw01_UtfBack.j0 k y240 y262 bt265.2.1 true)))) else (none))) else (none))) else (none))) else (if (bt248.1.length : Int) = 0 then ((cavillaw01_works.f k).bind fun t274 => (some t274)) else (some false))))) else (none)) else (none))) else (none)) else (none)) = some r := by first | (rw [hji4] at H; exact H) | (simp only [hji4] at H ⊢; exact H)
  (try (have hji4h : ji4 ≤ 100 := by (rw [← hji4]; unfold mn; (repeat' split) <;> omega)))
  (try (have hji4g : ji4 ≤ 64 := by omega))
  (try (have hji4l : 0 ≤ ji4 := by (rw [← hji4]; unfold mn; (repeat' split) <;> omega)))
  (try (have hji4m : 0 ≤ ji4 := by omega))
  have hji4_ : (if 100 < (l1.length : Int) then 100 else (l1.length : Int)) = ji4 := hji4
  by_cases c5 : 0 ≤ (ji4)
  · rw [if_pos c5] at H
    have c5b0 := eq_true c5
    have c5b1 : decide (0 ≤ (ji4)) = true := decide_eq_true c5
    clear c5
    by_cases c6 : (ji4) ≤ (l1.length : Int)
    · rw [if_pos c6] at H
      have c6b0 := eq_true c6
      have c6b1 : decide ((ji4) ≤ (l1.length : Int)) = true := decide_eq_true c6
      clear c6
      obtain ⟨y240, hy240⟩ : ∃ y_ : List Int, y_ = (l1.take ((ji4) : Int).toNat) := ⟨_, rfl⟩
      replace H : (if 0 ≤ (mn (l2.length : Int) 100) then (if (mn (l2.length : Int) 100) ≤ (l2.length : Int) then ((some (l2.take ((mn (l2.length : Int) 100) : Int).toNat : List Int)).bind fun y244 => ((utf_Encode.f a0).bind fun bt248 => (if bt248.2.isNone = true then ((some (([] : List Int) : List Int)).bind fun y253 => (if y253.length + y240.length < 140737488355328 then ((some (y253 ++ y240 : List Int)).bind fun y256 => (if y256.length + bt248.1.length < 140737488355328 then ((some (y256 ++ bt248.1 : List Int)).bind fun y259 => (if y259.length + y244.length < 140737488355328 then ((some (y259 ++ y244 : List Int)).bind fun y262 => ((utf_Decode.f k y262 (y240.length : Int)).bind fun bt265 => (if bt265.2.2.isNone = true then (if bt265.1 = a0 then (if bt265.2.1 = (bt248.1.length : Int) then ((utf_Check.f k bt248.1).bind fun t269 => (if t269.isNone = true then ((utf_Boundary.f y262 (y240.length : Int)).bind fun t271 => (cavillaw01_UtfBack.j0 k y240 y262 bt265.2.1 (!t271))) else (cavillaw01_UtfBack.j0 k y240 y262 bt265.2.1 true))) else (cavillaw01_UtfBack.j0 k y240 y262 bt265.2.1 true)) else (cavillaw01_UtfBack.j0 k y240 y262 bt265.2.1 true)) else (cavillaw01_UtfBack.j0 k y240 y262 bt265.2.1 true)))) else (none))) else (none))) else (none))) else (if (bt248.1.length : Int) = 0 then ((cavillaw01_works.f k).bind fun t274 => (some t274)) else (some false))))) else (none)) else (none)) = some r := by first | (rw [hy240]; with_reducible exact H) | (have H2_ := (Option.bind_some _ _).symm.trans H; rw [hy240]; with_reducible exact H2_) | (have H2_ := (Option.bind_some _ _).symm.trans H; with_reducible exact H2_) | with_reducible exact H | (rw [hy240]; exact H) | exact H
      have Ny240 := Aside0.mk hy240
      clear hy240
      obtain ⟨ji7, hji7⟩ : ∃ j_ : Int, (mn (l2.length : Int) 100) = j_ := ⟨_, rfl⟩
      replace H : (if 0 ≤ (ji7) then (if (ji7) ≤ (l2.length : Int) then ((some (l2.take ((ji7) : Int).toNat : List Int)).bind fun y244 => ((utf_Encode.f a0).bind fun bt248 => (if bt248.2.isNone = true then ((some (([] : List Int) : List Int)).bind fun y253 => (if y253.length + y240.length < 140737488355328 then ((some (y253 ++ y240 : List Int)).bind fun y256 => (if y256.length + bt248.1.length < 140737488355328 then ((some (y256 ++ bt248.1 : List Int)).bind fun y259 => (if y259.length + y244.length < 140737488355328 then ((some (y259 ++ y244 : List Int)).bind fun y262 => ((utf_Decode.f k y262 (y240.length : Int)).bind fun bt265 => (if bt265.2.2.isNone = true then (if bt265.1 = a0 then (if bt265.2.1 = (bt248.1.length : Int) then ((utf_Check.f k bt248.1).bind fun t269 => (if t269.isNone = true then ((utf_Boundary.f y262 (y240.length : Int)).bind fun t271 => (cavillaw01_UtfBack.j0 k y240 y262 bt265.2.1 (!t271))) else (cavillaw01_UtfBack.j0 k y240 y262 bt265.2.1 true))) else (cavillaw01_UtfBack.j0 k y240 y262 bt265.2.1 true)) else (cavillaw01_UtfBack.j0 k y240 y262 bt265.2.1 true)) else (cavillaw01_UtfBack.j0 k y240 y262 bt265.2.1 true)))) else (none))) else (none))) else (none))) else (if (bt248.1.length : Int) = 0 then ((cavillaw01_works.f k).bind fun t274 => (some t274)) else (some false))))) else (none)) else (none)) = some r := by first | (rw [hji7] at H; exact H) | (simp only [hji7] at H ⊢; exact H)
      (try (have hji7h : ji7 ≤ 100 := by (rw [← hji7]; unfold mn; (repeat' split) <;> omega)))
      (try (have hji7g : ji7 ≤ 64 := by omega))
      (try (have hji7l : 0 ≤ ji7 := by (rw [← hji7]; unfold mn; (repeat' split) <;> omega)))
      (try (have hji7m : 0 ≤ ji7 := by omega))
      have hji7_ : (if 100 < (l2.length : Int) then 100 else (l2.length : Int)) = ji7 := hji7
      by_cases c8 : 0 ≤ (ji7)
      · rw [if_pos c8] at H
        have c8b0 := eq_true c8
        have c8b1 : decide (0 ≤ (ji7)) = true := decide_eq_true c8
        clear c8
        by_cases c9 : (ji7) ≤ (l2.length : Int)
        · rw [if_pos c9] at H
          have c9b0 := eq_true c9
          have c9b1 : decide ((ji7) ≤ (l2.length : Int)) = true := decide_eq_true c9
          clear c9
          obtain ⟨y244, hy244⟩ : ∃ y_ : List Int, y_ = (l2.take ((ji7) : Int).toNat) := ⟨_, rfl⟩
          replace H : ((utf_Encode.f a0).bind fun bt248 => (if bt248.2.isNone = true then ((some (([] : List Int) : List Int)).bind fun y253 => (if y253.length + y240.length < 140737488355328 then ((some (y253 ++ y240 : List Int)).bind fun y256 => (if y256.length + bt248.1.length < 140737488355328 then ((some (y256 ++ bt248.1 : List Int)).bind fun y259 => (if y259.length + y244.length < 140737488355328 then ((some (y259 ++ y244 : List Int)).bind fun y262 => ((utf_Decode.f k y262 (y240.length : Int)).bind fun bt265 => (if bt265.2.2.isNone = true then (if bt265.1 = a0 then (if bt265.2.1 = (bt248.1.length : Int) then ((utf_Check.f k bt248.1).bind fun t269 => (if t269.isNone = true then ((utf_Boundary.f y262 (y240.length : Int)).bind fun t271 => (cavillaw01_UtfBack.j0 k y240 y262 bt265.2.1 (!t271))) else (cavillaw01_UtfBack.j0 k y240 y262 bt265.2.1 true))) else (cavillaw01_UtfBack.j0 k y240 y262 bt265.2.1 true)) else (cavillaw01_UtfBack.j0 k y240 y262 bt265.2.1 true)) else (cavillaw01_UtfBack.j0 k y240 y262 bt265.2.1 true)))) else (none))) else (none))) else (none))) else (if (bt248.1.length : Int) = 0 then ((cavillaw01_works.f k).bind fun t274 => (some t274)) else (some false)))) = some r := by first | (rw [hy244]; with_reducible exact H) | (have H2_ := (Option.bind_some _ _).symm.trans H; rw [hy244]; with_reducible exact H2_) | (have H2_ := (Option.bind_some _ _).symm.trans H; with_reducible exact H2_) | with_reducible exact H | (rw [hy244]; exact H) | exact H
          have Ny244 := Aside0.mk hy244
          clear hy244
          replace H := Option.bind_eq_some_iff.mp H
          obtain ⟨⟨t248, t249⟩, A100, H⟩ := H
          replace H : (if t249.isNone = true then ((some (([] : List Int) : List Int)).bind fun y253 => (if y253.length + y240.length < 140737488355328 then ((some (y253 ++ y240 : List Int)).bind fun y256 => (if y256.length + t248.length < 140737488355328 then ((some (y256 ++ t248 : List Int)).bind fun y259 => (if y259.length + y244.length < 140737488355328 then ((some (y259 ++ y244 : List Int)).bind fun y262 => ((utf_Decode.f k y262 (y240.length : Int)).bind fun bt265 => (if bt265.2.2.isNone = true then (if bt265.1 = a0 then (if bt265.2.1 = (t248.length : Int) then ((utf_Check.f k t248).bind fun t269 => (if t269.isNone = true then ((utf_Boundary.f y262 (y240.length : Int)).bind fun t271 => (cavillaw01_UtfBack.j0 k y240 y262 bt265.2.1 (!t271))) else (cavillaw01_UtfBack.j0 k y240 y262 bt265.2.1 true))) else (cavillaw01_UtfBack.j0 k y240 y262 bt265.2.1 true)) else (cavillaw01_UtfBack.j0 k y240 y262 bt265.2.1 true)) else (cavillaw01_UtfBack.j0 k y240 y262 bt265.2.1 true)))) else (none))) else (none))) else (none))) else (if (t248.length : Int) = 0 then ((cavillaw01_works.f k).bind fun t274 => (some t274)) else (some false))) = some r := H
          have A10 := Aside0.mk A100
          clear A100
          rcases t249 with _ | q252
          · have H1 : ((some (([] : List Int) : List Int)).bind fun y253 => (if y253.length + y240.length < 140737488355328 then ((some (y253 ++ y240 : List Int)).bind fun y256 => (if y256.length + t248.length < 140737488355328 then ((some (y256 ++ t248 : List Int)).bind fun y259 => (if y259.length + y244.length < 140737488355328 then ((some (y259 ++ y244 : List Int)).bind fun y262 => ((utf_Decode.f k y262 (y240.length : Int)).bind fun bt265 => (if bt265.2.2.isNone = true then (if bt265.1 = a0 then (if bt265.2.1 = (t248.length : Int) then ((utf_Check.f k t248).bind fun t269 => (if t269.isNone = true then ((utf_Boundary.f y262 (y240.length : Int)).bind fun t271 => (cavillaw01_UtfBack.j0 k y240 y262 bt265.2.1 (!t271))) else (cavillaw01_UtfBack.j0 k y240 y262 bt265.2.1 true))) else (cavillaw01_UtfBack.j0 k y240 y262 bt265.2.1 true)) else (cavillaw01_UtfBack.j0 k y240 y262 bt265.2.1 true)) else (cavillaw01_UtfBack.j0 k y240 y262 bt265.2.1 true)))) else (none))) else (none))) else (none))) = some r := by rw [if_pos (show (none : Option Er).isNone = true by rfl)] at H; exact H
            clear H
            have H := H1
            clear H1
            try simp only [errW_none, errW_some, erT_no, erV_no, erT_at, erV_at]
            obtain ⟨y253, hy253⟩ : ∃ y_ : List Int, y_ = (([] : List Int)) := ⟨_, rfl⟩
            replace H : (if y253.length + y240.length < 140737488355328 then ((some (y253 ++ y240 : List Int)).bind fun y256 => (if y256.length + t248.length < 140737488355328 then ((some (y256 ++ t248 : List Int)).bind fun y259 => (if y259.length + y244.length < 140737488355328 then ((some (y259 ++ y244 : List Int)).bind fun y262 => ((utf_Decode.f k y262 (y240.length : Int)).bind fun bt265 => (if bt265.2.2.isNone = true then (if bt265.1 = a0 then (if bt265.2.1 = (t248.length : Int) then ((utf_Check.f k t248).bind fun t269 => (if t269.isNone = true then ((utf_Boundary.f y262 (y240.length : Int)).bind fun t271 => (cavillaw01_UtfBack.j0 k y240 y262 bt265.2.1 (!t271))) else (cavillaw01_UtfBack.j0 k y240 y262 bt265.2.1 true))) else (cavillaw01_UtfBack.j0 k y240 y262 bt265.2.1 true)) else (cavillaw01_UtfBack.j0 k y240 y262 bt265.2.1 true)) else (cavillaw01_UtfBack.j0 k y240 y262 bt265.2.1 true)))) else (none))) else (none))) else (none)) = some r := by first | (rw [hy253]; with_reducible exact H) | (have H2_ := (Option.bind_some _ _).symm.trans H; rw [hy253]; with_reducible exact H2_) | (have H2_ := (Option.bind_some _ _).symm.trans H; with_reducible exact H2_) | with_reducible exact H | (rw [hy253]; exact H) | exact H
            have Ny253 := Aside0.mk hy253
            clear hy253
            by_cases c11 : y253.length + y240.length < 140737488355328
            · rw [if_pos c11] at H
              have LMc11 := Aside0.mk c11
              clear c11
              obtain ⟨y256, hy256⟩ : ∃ y_ : List Int, y_ = (y253 ++ y240) := ⟨_, rfl⟩
              replace H : (if y256.length + t248.length < 140737488355328 then ((some (y256 ++ t248 : List Int)).bind fun y259 => (if y259.length + y244.length < 140737488355328 then ((some (y259 ++ y244 : List Int)).bind fun y262 => ((utf_Decode.f k y262 (y240.length : Int)).bind fun bt265 => (if bt265.2.2.isNone = true then (if bt265.1 = a0 then (if bt265.2.1 = (t248.length : Int) then ((utf_Check.f k t248).bind fun t269 => (if t269.isNone = true then ((utf_Boundary.f y262 (y240.length : Int)).bind fun t271 => (cavillaw01_UtfBack.j0 k y240 y262 bt265.2.1 (!t271))) else (cavillaw01_UtfBack.j0 k y240 y262 bt265.2.1 true))) else (cavillaw01_UtfBack.j0 k y240 y262 bt265.2.1 true)) else (cavillaw01_UtfBack.j0 k y240 y262 bt265.2.1 true)) else (cavillaw01_UtfBack.j0 k y240 y262 bt265.2.1 true)))) else (none))) else (none)) = some r := by first | (rw [hy256]; with_reducible exact H) | (have H2_ := (Option.bind_some _ _).symm.trans H; rw [hy256]; with_reducible exact H2_) | (have H2_ := (Option.bind_some _ _).symm.trans H; with_reducible exact H2_) | with_reducible exact H | (rw [hy256]; exact H) | exact H
              have Ny256 := Aside0.mk hy256
              clear hy256
              by_cases c12 : y256.length + t248.length < 140737488355328
              · rw [if_pos c12] at H
                have LMc12 := Aside0.mk c12
                clear c12
                obtain ⟨y259, hy259⟩ : ∃ y_ : List Int, y_ = (y256 ++ t248) := ⟨_, rfl⟩
                replace H : (if y259.length + y244.length < 140737488355328 then ((some (y259 ++ y244 : List Int)).bind fun y262 => ((utf_Decode.f k y262 (y240.length : Int)).bind fun bt265 => (if bt265.2.2.isNone = true then (if bt265.1 = a0 then (if bt265.2.1 = (t248.length : Int) then ((utf_Check.f k t248).bind fun t269 => (if t269.isNone = true then ((utf_Boundary.f y262 (y240.length : Int)).bind fun t271 => (cavillaw01_UtfBack.j0 k y240 y262 bt265.2.1 (!t271))) else (cavillaw01_UtfBack.j0 k y240 y262 bt265.2.1 true))) else (cavillaw01_UtfBack.j0 k y240 y262 bt265.2.1 true)) else (cavillaw01_UtfBack.j0 k y240 y262 bt265.2.1 true)) else (cavillaw01_UtfBack.j0 k y240 y262 bt265.2.1 true)))) else (none)) = some r := by first | (rw [hy259]; with_reducible exact H) | (have H2_ := (Option.bind_some _ _).symm.trans H; rw [hy259]; with_reducible exact H2_) | (have H2_ := (Option.bind_some _ _).symm.trans H; with_reducible exact H2_) | with_reducible exact H | (rw [hy259]; exact H) | exact H
                have Ny259 := Aside0.mk hy259
                clear hy259
                by_cases c13 : y259.length + y244.length < 140737488355328
                · rw [if_pos c13] at H
                  have LMc13 := Aside0.mk c13
                  clear c13
                  obtain ⟨y262, hy262⟩ : ∃ y_ : List Int, y_ = (y259 ++ y244) := ⟨_, rfl⟩
                  replace H : ((utf_Decode.f k y262 (y240.length : Int)).bind fun bt265 => (if bt265.2.2.isNone = true then (if bt265.1 = a0 then (if bt265.2.1 = (t248.length : Int) then ((utf_Check.f k t248).bind fun t269 => (if t269.isNone = true then ((utf_Boundary.f y262 (y240.length : Int)).bind fun t271 => (cavillaw01_UtfBack.j0 k y240 y262 bt265.2.1 (!t271))) else (cavillaw01_UtfBack.j0 k y240 y262 bt265.2.1 true))) else (cavillaw01_UtfBack.j0 k y240 y262 bt265.2.1 true)) else (cavillaw01_UtfBack.j0 k y240 y262 bt265.2.1 true)) else (cavillaw01_UtfBack.j0 k y240 y262 bt265.2.1 true))) = some r := by first | (rw [hy262]; with_reducible exact H) | (have H2_ := (Option.bind_some _ _).symm.trans H; rw [hy262]; with_reducible exact H2_) | (have H2_ := (Option.bind_some _ _).symm.trans H; with_reducible exact H2_) | with_reducible exact H | (rw [hy262]; exact H) | exact H
                  have Ny262 := Aside0.mk hy262
                  clear hy262
                  replace H := Option.bind_eq_some_iff.mp H
                  obtain ⟨⟨t265, t266, t267⟩, A140, H⟩ := H
                  replace H : (if t267.isNone = true then (if t265 = a0 then (if t266 = (t248.length : Int) then ((utf_Check.f k t248).bind fun t269 => (if t269.isNone = true then ((utf_Boundary.f y262 (y240.length : Int)).bind fun t271 => (cavillaw01_UtfBack.j0 k y240 y262 t266 (!t271))) else (cavillaw01_UtfBack.j0 k y240 y262 t266 true))) else (cavillaw01_UtfBack.j0 k y240 y262 t266 true)) else (cavillaw01_UtfBack.j0 k y240 y262 t266 true)) else (cavillaw01_UtfBack.j0 k y240 y262 t266 true)) = some r := H
                  have A14 := Aside0.mk A140
                  clear A140
                  have HC15 := Aside0.mk H
                  clear H
                  have q16 : ((ji4) : Int) ≤ ((l1.length : Int) : Int) := of_decide_eq_true (by first | (with_reducible assumption) | assumption)
                  obtain ⟨i016, hi016, _, hsz16, _⟩ := info_parts info5
                  have hroom16 : l1.length ≤ c1 := HC1.out
                  have hC16 : Kd.C (Kd.int .u8) _ A1 l1.length l1 := HR1.out
                  have hcut16 := cut_to (P := Tryd.prog) 47 5 .i64 Tryd.underlying47 hi016 A1 l1.length c1 (ji4) (of_decide_eq_true (by first | (with_reducible assumption) | assumption)) q16 hroom16
                  have hr16 := Kd.C_take (m := ((ji4) : Int).toNat) hC16 (by omega)
                  have hy16 : y240.length = ((ji4) : Int).toNat := (by rw [Ny240.out, List.length_take]; omega)
                  rw [← Ny240.out] at hr16
                  rw [← hy16] at hcut16
                  have HR243 := Aside0.mk hr16
                  have HC243 := Aside0.mk (show y240.length ≤ c1 from by omega)
                  clear hr16 hC16 hroom16 hi016 hsz16
                  have KY16 := Aside0.mk hy16
                  clear hy16
                  replace q16 := eq_true q16
                  have q17 : ((ji7) : Int) ≤ ((l2.length : Int) : Int) := of_decide_eq_true (by first | (with_reducible assumption) | assumption)
                  obtain ⟨i017, hi017, _, hsz17, _⟩ := info_parts info5
                  have hroom17 : l2.length ≤ c2 := HC2.out
                  have hC17 : Kd.C (Kd.int .u8) _ A2 l2.length l2 := HR2.out
                  have hcut17 := cut_to (P := Tryd.prog) 47 5 .i64 Tryd.underlying47 hi017 A2 l2.length c2 (ji7) (of_decide_eq_true (by first | (with_reducible assumption) | assumption)) q17 hroom17
                  have hr17 := Kd.C_take (m := ((ji7) : Int).toNat) hC17 (by omega)
                  have hy17 : y244.length = ((ji7) : Int).toNat := (by rw [Ny244.out, List.length_take]; omega)
                  rw [← Ny244.out] at hr17
                  rw [← hy17] at hcut17
                  have HR247 := Aside0.mk hr17
                  have HC247 := Aside0.mk (show y244.length ≤ c2 from by omega)
                  clear hr17 hC17 hroom17 hi017 hsz17
                  have KY17 := Aside0.mk hy17
                  clear hy17
                  replace q17 := eq_true q17
                  go_enter Tryd.func6, Tryd.ntmps6
                  go_upto_region 7 with (first | (go_at_call 27; (with_reducible refine (utf_Encode.calls a0 t248 none _ A10.out).mono ?_); rintro e w18 ⟨v250, rfl, ho0, hb⟩; have n0_ := Aside0.mk (Kd.R_lower ho0 (below_size (by repeat (first | (with_reducible first | exact HB.out | apply below_alloc | apply pw_below_drewN | apply below_drew1) | exact HB.out)))); have n1_ := Aside0.mk (below_step (by repeat (first | (with_reducible first | exact HB.out | apply below_alloc | apply pw_below_drewN | apply below_drew1) | exact HB.out)) hb); clear HB; have HO251 := n0_; have HB := n1_; clear n0_ n1_; (try clear hb); (try clear hb2); (try clear hk); (try clear hi); (try clear ho0); (try simp only [errW_none, errW_some, erT_no, erV_no, erT_at, erV_at])) | ((with_reducible refine gate_dst (N := 37) rfl ?_); (try (refine gate_guard (by rfl) ?_; dsimp only)); refine Kd.R_lit (Kd.int .u8) _ 5 ?hg (N := 37) ?hd (xs := ([] : List Int)) (inner := []) (ok := fun _ => True) (okp := fun _ => True) ?hr ?hp (fun _ hk => hk) trivial (Below.refl _ _) (Nat.le_refl _) (by simp) ?_; (case hd => rfl); (case hg => rfl); (case hr => first | (go_simp; done) | (go_simp; rfl)); (case hp => exact (Reps.none _ _)); intro v254 w19 ho20 hb hg_ hnew_; clear hg_ hnew_; (first | rw [← Ny253.out] at ho20 | (simp only [Int.reduceToNat] at ho20; rw [← Ny253.out] at ho20)); have n0_ := Aside0.mk (Kd.R_elder' (by (with_reducible repeat (first | apply Kd.R_alloc | apply Kd.R_drewN | apply Kd.R_drew)); exact HO251.out) (Kd.R_base ho20) hb); have n1_ := Aside0.mk (Kd.R_lower (Kd.R_new' ho20 (Kd.R_lt (by (with_reducible repeat (first | apply Kd.R_alloc | apply Kd.R_drewN | apply Kd.R_drew)); exact HO251.out))) (below_size (by repeat (first | (with_reducible first | exact HB.out | apply below_alloc | apply pw_below_drewN | apply below_drew1) | exact HB.out)))); have n2_ := Aside0.mk (below_step (by repeat (first | (with_reducible first | exact HB.out | apply below_alloc | apply pw_below_drewN | apply below_drew1) | exact HB.out)) hb); clear HO251; clear HB; have HO251 := n0_; have HO255 := n1_; have HB := n2_; clear n0_ n1_ n2_; clear hb ho20) | ((with_reducible refine gate_builtin (b := .append) (xs := #[.tmp 37, .tmp 38]) rfl ?_); (try (refine gate_guard (by rfl) ?_; dsimp only)); at_builtin; refine Kd.R_append_rows (Kd.int .u8) (w0 := w) w.heap.size rfl (.tmp 37) (.tmp 38) 47 5 (.int .u8 0) 1 rfl Tryd.underlying47 info5 rfl (by decide) (by omega) v254 y253 y240 _ _ _ (fun k_ => some k_ ≠ (v250 : Value).ownBlock) (fun _ => False) rfl rfl ?aO ?aR (fun _ _ h => h) (fun _ h => h.elim) ?aF ?aB ?aS ?aL ?_; (case aR => repeat (first | exact (Kd.C_below HR243.out HB.out) | (with_reducible refine Kd.C_alloc ?_ _) | (with_reducible refine Kd.C_drewN ?_ _) | (with_reducible refine Kd.C_drew ?_))); (case aB => exact (by repeat (first | (with_reducible first | exact HB.out | apply below_alloc | apply pw_below_drewN | apply below_drew1) | exact HB.out))); (case aF => exact (fun k_ hk => Kd.fresh' (Kd.R_lt (by (with_reducible repeat (first | apply Kd.R_alloc | apply Kd.R_drewN | apply Kd.R_drew)); exact HO251.out)) k_ hk)); (case aO => exact (by (with_reducible repeat (first | apply Kd.R_alloc | apply Kd.R_drewN | apply Kd.R_drew)); exact Kd.R_mono HO255.out (fun _ hk => hk.2))); (case aS => exact (below_size (by repeat (first | (with_reducible first | exact HB.out | apply below_alloc | apply pw_below_drewN | apply below_drew1) | exact HB.out)))); (case aL => have := LMc11.out; omega); intro v257 w21 ho hb hg hat; rw [← Ny256.out] at ho; have n0_ := Aside0.mk (Kd.R_after (ok := (fun _ => True)) (by (with_reducible repeat (first | apply Kd.R_alloc | apply Kd.R_drewN | apply Kd.R_drew)); exact HO251.out) hg hat); have n1_ := Aside0.mk (hb); have n2_ := Aside0.mk (ho); clear HO251; clear HB; clear HO255; have HO251 := n0_; have HB := n1_; have HO258 := n2_; clear n0_ n1_ n2_; clear ho hb hg hat; obtain ⟨Ao23, co23, eo23⟩ := Kd.R_slice HO251.out; subst eo23) | ((with_reducible refine gate_builtin (b := .append) (xs := #[.tmp 39, .tmp 40]) rfl ?_); (try (refine gate_guard (by rfl) ?_; dsimp only)); at_builtin; refine Kd.R_append_rows (Kd.int .u8) (w0 := w) w.heap.size rfl (.tmp 39) (.tmp 40) 47 5 (.int .u8 0) 1 rfl Tryd.underlying47 info5 rfl (by decide) (by omega) v257 y256 t248 _ _ _ (fun k_ => some k_ ≠ (.slice Ao23 t248.length co23 : Value).ownBlock) (fun _ => False) rfl rfl ?aO ?aR (fun _ _ h => h) (fun _ h => h.elim) ?aF ?aB ?aS ?aL ?_; (case aR => repeat (first | exact (Kd.R_reads' HO251.out).2.2 | (with_reducible refine Kd.C_alloc ?_ _) | (with_reducible refine Kd.C_drewN ?_ _) | (with_reducible refine Kd.C_drew ?_))); (case aB => exact (by repeat (first | (with_reducible first | exact HB.out | apply below_alloc | apply pw_below_drewN | apply below_drew1) | exact HB.out))); (case aF => exact (fun k_ hk => Kd.fresh' (Kd.R_lt (by (with_reducible repeat (first | apply Kd.R_alloc | apply Kd.R_drewN | apply Kd.R_drew)); exact HO251.out)) k_ hk)); (case aO => exact (by (with_reducible repeat (first | apply Kd.R_alloc | apply Kd.R_drewN | apply Kd.R_drew)); exact HO258.out)); (case aS => exact (below_size (by repeat (first | (with_reducible first | exact HB.out | apply below_alloc | apply pw_below_drewN | apply below_drew1) | exact HB.out)))); (case aL => have := LMc12.out; omega); intro v260 w22 ho hb hg hat; rw [← Ny259.out] at ho; have n0_ := Aside0.mk (Kd.R_after (ok := (fun _ => True)) (by (with_reducible repeat (first | apply Kd.R_alloc | apply Kd.R_drewN | apply Kd.R_drew)); exact HO251.out) hg hat); have n1_ := Aside0.mk (hb); have n2_ := Aside0.mk (ho); clear HO251; clear HB; clear HO258; have HO251 := n0_; have HB := n1_; have HO261 := n2_; clear n0_ n1_ n2_; clear ho hb hg hat) | ((with_reducible refine gate_builtin (b := .append) (xs := #[.tmp 41, .tmp 42]) rfl ?_); (try (refine gate_guard (by rfl) ?_; dsimp only)); at_builtin; refine Kd.R_append_rows (Kd.int .u8) (w0 := w) w.heap.size rfl (.tmp 41) (.tmp 42) 47 5 (.int .u8 0) 1 rfl Tryd.underlying47 info5 rfl (by decide) (by omega) v260 y259 y244 _ _ _ (fun k_ => some k_ ≠ (.slice Ao23 t248.length co23 : Value).ownBlock) (fun _ => False) rfl rfl ?aO ?aR (fun _ _ h => h) (fun _ h => h.elim) ?aF ?aB ?aS ?aL ?_; (case aR => repeat (first | exact (Kd.C_below HR247.out HB.out) | (with_reducible refine Kd.C_alloc ?_ _) | (with_reducible refine Kd.C_drewN ?_ _) | (with_reducible refine Kd.C_drew ?_))); (case aB => exact (by repeat (first | (with_reducible first | exact HB.out | apply below_alloc | apply pw_below_drewN | apply below_drew1) | exact HB.out))); (case aF => exact (fun k_ hk => Kd.fresh' (Kd.R_lt (by (with_reducible repeat (first | apply Kd.R_alloc | apply Kd.R_drewN | apply Kd.R_drew)); exact HO251.out)) k_ hk)); (case aO => exact (by (with_reducible repeat (first | apply Kd.R_alloc | apply Kd.R_drewN | apply Kd.R_drew)); exact HO261.out)); (case aS => exact (below_size (by repeat (first | (with_reducible first | exact HB.out | apply below_alloc | apply pw_below_drewN | apply below_drew1) | exact HB.out)))); (case aL => have := LMc13.out; omega); intro v263 w24 ho hb hg hat; rw [← Ny262.out] at ho; have n0_ := Aside0.mk (Kd.R_after (ok := (fun _ => True)) (by (with_reducible repeat (first | apply Kd.R_alloc | apply Kd.R_drewN | apply Kd.R_drew)); exact HO251.out) hg hat); have n1_ := Aside0.mk (hb); have n2_ := Aside0.mk (ho); clear HO251; clear HB; clear HO261; have HO251 := n0_; have HB := n1_; have HO264 := n2_; clear n0_ n1_ n2_; clear ho hb hg hat; obtain ⟨Ao25, co25, eo25⟩ := Kd.R_slice HO264.out; subst eo25) | (go_at_call 25; (with_reducible refine (utf_Decode.calls k _ _ y262 (y240.length : Int) t265 t266 t267 _ ?side1 ?side2 A14.out).mono ?_); (case side1 => repeat (first | exact (Kd.R_reads' HO264.out).2.2 | (with_reducible refine Kd.C_alloc ?_ _) | (with_reducible refine Kd.C_drewN ?_ _) | (with_reducible refine Kd.C_drew ?_))); (case side2 => exact (Kd.R_reads' HO264.out).2.1); rintro e w' ⟨rfl, ⟨nd, rfl⟩⟩; (try simp only [errW_none, errW_some, erT_no, erV_no, erT_at, erV_at]); (try first | exact ⟨rfl, _, World.drewN_drewN _ _ _⟩ | exact ⟨rfl, _, Eq.trans (World.drewN_drewN _ _ _) (congrArg (World.drewN _) (Nat.add_assoc _ _ _))⟩)))
                  repeat (go_quiet (first | (go_at_call 27; (with_reducible refine (utf_Encode.calls a0 t248 none _ A10.out).mono ?_); rintro e w18 ⟨v250, rfl, ho0, hb⟩; have n0_ := Aside0.mk (Kd.R_lower ho0 (below_size (by repeat (first | (with_reducible first | exact HB.out | apply below_alloc | apply pw_below_drewN | apply below_drew1) | exact HB.out)))); have n1_ := Aside0.mk (below_step (by repeat (first | (with_reducible first | exact HB.out | apply below_alloc | apply pw_below_drewN | apply below_drew1) | exact HB.out)) hb); clear HB; have HO251 := n0_; have HB := n1_; clear n0_ n1_; (try clear hb); (try clear hb2); (try clear hk); (try clear hi); (try clear ho0); (try simp only [errW_none, errW_some, erT_no, erV_no, erT_at, erV_at])) | ((with_reducible refine gate_dst (N := 37) rfl ?_); (try (refine gate_guard (by rfl) ?_; dsimp only)); refine Kd.R_lit (Kd.int .u8) _ 5 ?hg (N := 37) ?hd (xs := ([] : List Int)) (inner := []) (ok := fun _ => True) (okp := fun _ => True) ?hr ?hp (fun _ hk => hk) trivial (Below.refl _ _) (Nat.le_refl _) (by simp) ?_; (case hd => rfl); (case hg => rfl); (case hr => first | (go_simp; done) | (go_simp; rfl)); (case hp => exact (Reps.none _ _)); intro v254 w19 ho20 hb hg_ hnew_; clear hg_ hnew_; (first | rw [← Ny253.out] at ho20 | (simp only [Int.reduceToNat] at ho20; rw [← Ny253.out] at ho20)); have n0_ := Aside0.mk (Kd.R_elder' (by (with_reducible repeat (first | apply Kd.R_alloc | apply Kd.R_drewN | apply Kd.R_drew)); exact HO251.out) (Kd.R_base ho20) hb); have n1_ := Aside0.mk (Kd.R_lower (Kd.R_new' ho20 (Kd.R_lt (by (with_reducible repeat (first | apply Kd.R_alloc | apply Kd.R_drewN | apply Kd.R_drew)); exact HO251.out))) (below_size (by repeat (first | (with_reducible first | exact HB.out | apply below_alloc | apply pw_below_drewN | apply below_drew1) | exact HB.out)))); have n2_ := Aside0.mk (below_step (by repeat (first | (with_reducible first | exact HB.out | apply below_alloc | apply pw_below_drewN | apply below_drew1) | exact HB.out)) hb); clear HO251; clear HB; have HO251 := n0_; have HO255 := n1_; have HB := n2_; clear n0_ n1_ n2_; clear hb ho20) | ((with_reducible refine gate_builtin (b := .append) (xs := #[.tmp 37, .tmp 38]) rfl ?_); (try (refine gate_guard (by rfl) ?_; dsimp only)); at_builtin; refine Kd.R_append_rows (Kd.int .u8) (w0 := w) w.heap.size rfl (.tmp 37) (.tmp 38) 47 5 (.int .u8 0) 1 rfl Tryd.underlying47 info5 rfl (by decide) (by omega) v254 y253 y240 _ _ _ (fun k_ => some k_ ≠ (v250 : Value).ownBlock) (fun _ => False) rfl rfl ?aO ?aR (fun _ _ h => h) (fun _ h => h.elim) ?aF ?aB ?aS ?aL ?_; (case aR => repeat (first | exact (Kd.C_below HR243.out HB.out) | (with_reducible refine Kd.C_alloc ?_ _) | (with_reducible refine Kd.C_drewN ?_ _) | (with_reducible refine Kd.C_drew ?_))); (case aB => exact (by repeat (first | (with_reducible first | exact HB.out | apply below_alloc | apply pw_below_drewN | apply below_drew1) | exact HB.out))); (case aF => exact (fun k_ hk => Kd.fresh' (Kd.R_lt (by (with_reducible repeat (first | apply Kd.R_alloc | apply Kd.R_drewN | apply Kd.R_drew)); exact HO251.out)) k_ hk)); (case aO => exact (by (with_reducible repeat (first | apply Kd.R_alloc | apply Kd.R_drewN | apply Kd.R_drew)); exact Kd.R_mono HO255.out (fun _ hk => hk.2))); (case aS => exact (below_size (by repeat (first | (with_reducible first | exact HB.out | apply below_alloc | apply pw_below_drewN | apply below_drew1) | exact HB.out)))); (case aL => have := LMc11.out; omega); intro v257 w21 ho hb hg hat; rw [← Ny256.out] at ho; have n0_ := Aside0.mk (Kd.R_after (ok := (fun _ => True)) (by (with_reducible repeat (first | apply Kd.R_alloc | apply Kd.R_drewN | apply Kd.R_drew)); exact HO251.out) hg hat); have n1_ := Aside0.mk (hb); have n2_ := Aside0.mk (ho); clear HO251; clear HB; clear HO255; have HO251 := n0_; have HB := n1_; have HO258 := n2_; clear n0_ n1_ n2_; clear ho hb hg hat; obtain ⟨Ao23, co23, eo23⟩ := Kd.R_slice HO251.out; subst eo23) | ((with_reducible refine gate_builtin (b := .append) (xs := #[.tmp 39, .tmp 40]) rfl ?_); (try (refine gate_guard (by rfl) ?_; dsimp only)); at_builtin; refine Kd.R_append_rows (Kd.int .u8) (w0 := w) w.heap.size rfl (.tmp 39) (.tmp 40) 47 5 (.int .u8 0) 1 rfl Tryd.underlying47 info5 rfl (by decide) (by omega) v257 y256 t248 _ _ _ (fun k_ => some k_ ≠ (.slice Ao23 t248.length co23 : Value).ownBlock) (fun _ => False) rfl rfl ?aO ?aR (fun _ _ h => h) (fun _ h => h.elim) ?aF ?aB ?aS ?aL ?_; (case aR => repeat (first | exact (Kd.R_reads' HO251.out).2.2 | (with_reducible refine Kd.C_alloc ?_ _) | (with_reducible refine Kd.C_drewN ?_ _) | (with_reducible refine Kd.C_drew ?_))); (case aB => exact (by repeat (first | (with_reducible first | exact HB.out | apply below_alloc | apply pw_below_drewN | apply below_drew1) | exact HB.out))); (case aF => exact (fun k_ hk => Kd.fresh' (Kd.R_lt (by (with_reducible repeat (first | apply Kd.R_alloc | apply Kd.R_drewN | apply Kd.R_drew)); exact HO251.out)) k_ hk)); (case aO => exact (by (with_reducible repeat (first | apply Kd.R_alloc | apply Kd.R_drewN | apply Kd.R_drew)); exact HO258.out)); (case aS => exact (below_size (by repeat (first | (with_reducible first | exact HB.out | apply below_alloc | apply pw_below_drewN | apply below_drew1) | exact HB.out)))); (case aL => have := LMc12.out; omega); intro v260 w22 ho hb hg hat; rw [← Ny259.out] at ho; have n0_ := Aside0.mk (Kd.R_after (ok := (fun _ => True)) (by (with_reducible repeat (first | apply Kd.R_alloc | apply Kd.R_drewN | apply Kd.R_drew)); exact HO251.out) hg hat); have n1_ := Aside0.mk (hb); have n2_ := Aside0.mk (ho); clear HO251; clear HB; clear HO258; have HO251 := n0_; have HB := n1_; have HO261 := n2_; clear n0_ n1_ n2_; clear ho hb hg hat) | ((with_reducible refine gate_builtin (b := .append) (xs := #[.tmp 41, .tmp 42]) rfl ?_); (try (refine gate_guard (by rfl) ?_; dsimp only)); at_builtin; refine Kd.R_append_rows (Kd.int .u8) (w0 := w) w.heap.size rfl (.tmp 41) (.tmp 42) 47 5 (.int .u8 0) 1 rfl Tryd.underlying47 info5 rfl (by decide) (by omega) v260 y259 y244 _ _ _ (fun k_ => some k_ ≠ (.slice Ao23 t248.length co23 : Value).ownBlock) (fun _ => False) rfl rfl ?aO ?aR (fun _ _ h => h) (fun _ h => h.elim) ?aF ?aB ?aS ?aL ?_; (case aR => repeat (first | exact (Kd.C_below HR247.out HB.out) | (with_reducible refine Kd.C_alloc ?_ _) | (with_reducible refine Kd.C_drewN ?_ _) | (with_reducible refine Kd.C_drew ?_))); (case aB => exact (by repeat (first | (with_reducible first | exact HB.out | apply below_alloc | apply pw_below_drewN | apply below_drew1) | exact HB.out))); (case aF => exact (fun k_ hk => Kd.fresh' (Kd.R_lt (by (with_reducible repeat (first | apply Kd.R_alloc | apply Kd.R_drewN | apply Kd.R_drew)); exact HO251.out)) k_ hk)); (case aO => exact (by (with_reducible repeat (first | apply Kd.R_alloc | apply Kd.R_drewN | apply Kd.R_drew)); exact HO261.out)); (case aS => exact (below_size (by repeat (first | (with_reducible first | exact HB.out | apply below_alloc | apply pw_below_drewN | apply below_drew1) | exact HB.out)))); (case aL => have := LMc13.out; omega); intro v263 w24 ho hb hg hat; rw [← Ny262.out] at ho; have n0_ := Aside0.mk (Kd.R_after (ok := (fun _ => True)) (by (with_reducible repeat (first | apply Kd.R_alloc | apply Kd.R_drewN | apply Kd.R_drew)); exact HO251.out) hg hat); have n1_ := Aside0.mk (hb); have n2_ := Aside0.mk (ho); clear HO251; clear HB; clear HO261; have HO251 := n0_; have HB := n1_; have HO264 := n2_; clear n0_ n1_ n2_; clear ho hb hg hat; obtain ⟨Ao25, co25, eo25⟩ := Kd.R_slice HO264.out; subst eo25) | (go_at_call 25; (with_reducible refine (utf_Decode.calls k _ _ y262 (y240.length : Int) t265 t266 t267 _ ?side1 ?side2 A14.out).mono ?_); (case side1 => repeat (first | exact (Kd.R_reads' HO264.out).2.2 | (with_reducible refine Kd.C_alloc ?_ _) | (with_reducible refine Kd.C_drewN ?_ _) | (with_reducible refine Kd.C_drew ?_))); (case side2 => exact (Kd.R_reads' HO264.out).2.1); rintro e w' ⟨rfl, ⟨nd, rfl⟩⟩; (try simp only [errW_none, errW_some, erT_no, erV_no, erT_at, erV_at]); (try first | exact ⟨rfl, _, World.drewN_drewN _ _ _⟩ | exact ⟨rfl, _, Eq.trans (World.drewN_drewN _ _ _) (congrArg (World.drewN _) (Nat.add_assoc _ _ _))⟩))); go_upto_region 7 with (first | (go_at_call 27; (with_reducible refine (utf_Encode.calls a0 t248 none _ A10.out).mono ?_); rintro e w18 ⟨v250, rfl, ho0, hb⟩; have n0_ := Aside0.mk (Kd.R_lower ho0 (below_size (by repeat (first | (with_reducible first | exact HB.out | apply below_alloc | apply pw_below_drewN | apply below_drew1) | exact HB.out)))); have n1_ := Aside0.mk (below_step (by repeat (first | (with_reducible first | exact HB.out | apply below_alloc | apply pw_below_drewN | apply below_drew1) | exact HB.out)) hb); clear HB; have HO251 := n0_; have HB := n1_; clear n0_ n1_; (try clear hb); (try clear hb2); (try clear hk); (try clear hi); (try clear ho0); (try simp only [errW_none, errW_some, erT_no, erV_no, erT_at, erV_at])) | ((with_reducible refine gate_dst (N := 37) rfl ?_); (try (refine gate_guard (by rfl) ?_; dsimp only)); refine Kd.R_lit (Kd.int .u8) _ 5 ?hg (N := 37) ?hd (xs := ([] : List Int)) (inner := []) (ok := fun _ => True) (okp := fun _ => True) ?hr ?hp (fun _ hk => hk) trivial (Below.refl _ _) (Nat.le_refl _) (by simp) ?_; (case hd => rfl); (case hg => rfl); (case hr => first | (go_simp; done) | (go_simp; rfl)); (case hp => exact (Reps.none _ _)); intro v254 w19 ho20 hb hg_ hnew_; clear hg_ hnew_; (first | rw [← Ny253.out] at ho20 | (simp only [Int.reduceToNat] at ho20; rw [← Ny253.out] at ho20)); have n0_ := Aside0.mk (Kd.R_elder' (by (with_reducible repeat (first | apply Kd.R_alloc | apply Kd.R_drewN | apply Kd.R_drew)); exact HO251.out) (Kd.R_base ho20) hb); have n1_ := Aside0.mk (Kd.R_lower (Kd.R_new' ho20 (Kd.R_lt (by (with_reducible repeat (first | apply Kd.R_alloc | apply Kd.R_drewN | apply Kd.R_drew)); exact HO251.out))) (below_size (by repeat (first | (with_reducible first | exact HB.out | apply below_alloc | apply pw_below_drewN | apply below_drew1) | exact HB.out)))); have n2_ := Aside0.mk (below_step (by repeat (first | (with_reducible first | exact HB.out | apply below_alloc | apply pw_below_drewN | apply below_drew1) | exact HB.out)) hb); clear HO251; clear HB; have HO251 := n0_; have HO255 := n1_; have HB := n2_; clear n0_ n1_ n2_; clear hb ho20) | ((with_reducible refine gate_builtin (b := .append) (xs := #[.tmp 37, .tmp 38]) rfl ?_); (try (refine gate_guard (by rfl) ?_; dsimp only)); at_builtin; refine Kd.R_append_rows (Kd.int .u8) (w0 := w) w.heap.size rfl (.tmp 37) (.tmp 38) 47 5 (.int .u8 0) 1 rfl Tryd.underlying47 info5 rfl (by decide) (by omega) v254 y253 y240 _ _ _ (fun k_ => some k_ ≠ (v250 : Value).ownBlock) (fun _ => False) rfl rfl ?aO ?aR (fun _ _ h => h) (fun _ h => h.elim) ?aF ?aB ?aS ?aL ?_; (case aR => repeat (first | exact (Kd.C_below HR243.out HB.out) | (with_reducible refine Kd.C_alloc ?_ _) | (with_reducible refine Kd.C_drewN ?_ _) | (with_reducible refine Kd.C_drew ?_))); (case aB => exact (by repeat (first | (with_reducible first | exact HB.out | apply below_alloc | apply pw_below_drewN | apply below_drew1) | exact HB.out))); (case aF => exact (fun k_ hk => Kd.fresh' (Kd.R_lt (by (with_reducible repeat (first | apply Kd.R_alloc | apply Kd.R_drewN | apply Kd.R_drew)); exact HO251.out)) k_ hk)); (case aO => exact (by (with_reducible repeat (first | apply Kd.R_alloc | apply Kd.R_drewN | apply Kd.R_drew)); exact Kd.R_mono HO255.out (fun _ hk => hk.2))); (case aS => exact (below_size (by repeat (first | (with_reducible first | exact HB.out | apply below_alloc | apply pw_below_drewN | apply below_drew1) | exact HB.out)))); (case aL => have := LMc11.out; omega); intro v257 w21 ho hb hg hat; rw [← Ny256.out] at ho; have n0_ := Aside0.mk (Kd.R_after (ok := (fun _ => True)) (by (with_reducible repeat (first | apply Kd.R_alloc | apply Kd.R_drewN | apply Kd.R_drew)); exact HO251.out) hg hat); have n1_ := Aside0.mk (hb); have n2_ := Aside0.mk (ho); clear HO251; clear HB; clear HO255; have HO251 := n0_; have HB := n1_; have HO258 := n2_; clear n0_ n1_ n2_; clear ho hb hg hat; obtain ⟨Ao23, co23, eo23⟩ := Kd.R_slice HO251.out; subst eo23) | ((with_reducible refine gate_builtin (b := .append) (xs := #[.tmp 39, .tmp 40]) rfl ?_); (try (refine gate_guard (by rfl) ?_; dsimp only)); at_builtin; refine Kd.R_append_rows (Kd.int .u8) (w0 := w) w.heap.size rfl (.tmp 39) (.tmp 40) 47 5 (.int .u8 0) 1 rfl Tryd.underlying47 info5 rfl (by decide) (by omega) v257 y256 t248 _ _ _ (fun k_ => some k_ ≠ (.slice Ao23 t248.length co23 : Value).ownBlock) (fun _ => False) rfl rfl ?aO ?aR (fun _ _ h => h) (fun _ h => h.elim) ?aF ?aB ?aS ?aL ?_; (case aR => repeat (first | exact (Kd.R_reads' HO251.out).2.2 | (with_reducible refine Kd.C_alloc ?_ _) | (with_reducible refine Kd.C_drewN ?_ _) | (with_reducible refine Kd.C_drew ?_))); (case aB => exact (by repeat (first | (with_reducible first | exact HB.out | apply below_alloc | apply pw_below_drewN | apply below_drew1) | exact HB.out))); (case aF => exact (fun k_ hk => Kd.fresh' (Kd.R_lt (by (with_reducible repeat (first | apply Kd.R_alloc | apply Kd.R_drewN | apply Kd.R_drew)); exact HO251.out)) k_ hk)); (case aO => exact (by (with_reducible repeat (first | apply Kd.R_alloc | apply Kd.R_drewN | apply Kd.R_drew)); exact HO258.out)); (case aS => exact (below_size (by repeat (first | (with_reducible first | exact HB.out | apply below_alloc | apply pw_below_drewN | apply below_drew1) | exact HB.out)))); (case aL => have := LMc12.out; omega); intro v260 w22 ho hb hg hat; rw [← Ny259.out] at ho; have n0_ := Aside0.mk (Kd.R_after (ok := (fun _ => True)) (by (with_reducible repeat (first | apply Kd.R_alloc | apply Kd.R_drewN | apply Kd.R_drew)); exact HO251.out) hg hat); have n1_ := Aside0.mk (hb); have n2_ := Aside0.mk (ho); clear HO251; clear HB; clear HO258; have HO251 := n0_; have HB := n1_; have HO261 := n2_; clear n0_ n1_ n2_; clear ho hb hg hat) | ((with_reducible refine gate_builtin (b := .append) (xs := #[.tmp 41, .tmp 42]) rfl ?_); (try (refine gate_guard (by rfl) ?_; dsimp only)); at_builtin; refine Kd.R_append_rows (Kd.int .u8) (w0 := w) w.heap.size rfl (.tmp 41) (.tmp 42) 47 5 (.int .u8 0) 1 rfl Tryd.underlying47 info5 rfl (by decide) (by omega) v260 y259 y244 _ _ _ (fun k_ => some k_ ≠ (.slice Ao23 t248.length co23 : Value).ownBlock) (fun _ => False) rfl rfl ?aO ?aR (fun _ _ h => h) (fun _ h => h.elim) ?aF ?aB ?aS ?aL ?_; (case aR => repeat (first | exact (Kd.C_below HR247.out HB.out) | (with_reducible refine Kd.C_alloc ?_ _) | (with_reducible refine Kd.C_drewN ?_ _) | (with_reducible refine Kd.C_drew ?_))); (case aB => exact (by repeat (first | (with_reducible first | exact HB.out | apply below_alloc | apply pw_below_drewN | apply below_drew1) | exact HB.out))); (case aF => exact (fun k_ hk => Kd.fresh' (Kd.R_lt (by (with_reducible repeat (first | apply Kd.R_alloc | apply Kd.R_drewN | apply Kd.R_drew)); exact HO251.out)) k_ hk)); (case aO => exact (by (with_reducible repeat (first | apply Kd.R_alloc | apply Kd.R_drewN | apply Kd.R_drew)); exact HO261.out)); (case aS => exact (below_size (by repeat (first | (with_reducible first | exact HB.out | apply below_alloc | apply pw_below_drewN | apply below_drew1) | exact HB.out)))); (case aL => have := LMc13.out; omega); intro v263 w24 ho hb hg hat; rw [← Ny262.out] at ho; have n0_ := Aside0.mk (Kd.R_after (ok := (fun _ => True)) (by (with_reducible repeat (first | apply Kd.R_alloc | apply Kd.R_drewN | apply Kd.R_drew)); exact HO251.out) hg hat); have n1_ := Aside0.mk (hb); have n2_ := Aside0.mk (ho); clear HO251; clear HB; clear HO261; have HO251 := n0_; have HB := n1_; have HO264 := n2_; clear n0_ n1_ n2_; clear ho hb hg hat; obtain ⟨Ao25, co25, eo25⟩ := Kd.R_slice HO264.out; subst eo25) | (go_at_call 25; (with_reducible refine (utf_Decode.calls k _ _ y262 (y240.length : Int) t265 t266 t267 _ ?side1 ?side2 A14.out).mono ?_); (case side1 => repeat (first | exact (Kd.R_reads' HO264.out).2.2 | (with_reducible refine Kd.C_alloc ?_ _) | (with_reducible refine Kd.C_drewN ?_ _) | (with_reducible refine Kd.C_drew ?_))); (case side2 => exact (Kd.R_reads' HO264.out).2.1); rintro e w' ⟨rfl, ⟨nd, rfl⟩⟩; (try simp only [errW_none, errW_some, erT_no, erV_no, erT_at, erV_at]); (try first | exact ⟨rfl, _, World.drewN_drewN _ _ _⟩ | exact ⟨rfl, _, Eq.trans (World.drewN_drewN _ _ _) (congrArg (World.drewN _) (Nat.add_assoc _ _ _))⟩))))
                  (try simp only [Act.put, List.setIfInBounds_toArray, List.set_cons_zero, List.set_cons_succ])
                  go_cut [76] (fun v76 wc => ∃ (kq : Nat) (x76_14 : Bool), v76 = .bool x76_14 ∧ Aside0 (cavillaw01_UtfBack.j0 kq y240 y262 t266 x76_14 = some r) ∧ Aside0 (kq ≤ k) ∧ Aside0 (Kd.R (Kd.int .u8) 5 wc w.heap.size (fun _ => True) (.slice Ao25 y262.length co25) y262) ∧ Aside0 (Below w.heap.size w wc))
                  case first =>
                    have H := HC15.out
                    clear HC15
                    rcases t267 with _ | q268
                    · have H1 : (if t265 = a0 then (if t266 = (t248.length : Int) then ((utf_Check.f k t248).bind fun t269 => (if t269.isNone = true then ((utf_Boundary.f y262 (y240.length : Int)).bind fun t271 => (cavillaw01_UtfBack.j0 k y240 y262 t266 (!t271))) else (cavillaw01_UtfBack.j0 k y240 y262 t266 true))) else (cavillaw01_UtfBack.j0 k y240 y262 t266 true)) else (cavillaw01_UtfBack.j0 k y240 y262 t266 true)) = some r := by rw [if_pos (show (none : Option Er).isNone = true by rfl)] at H; exact H
                      clear H
                      have H := H1
                      clear H1
                      try simp only [errW_none, errW_some, erT_no, erV_no, erT_at, erV_at]
                      by_cases c26 : t265 = a0
                      · rw [if_pos c26] at H
                        have c26b0 : (t265 == a0) = true := beq_iff_eq.mpr c26
                        have c26b1 : (t265 != a0) = false := bne_eq_false_iff_eq.mpr c26
                        clear c26
                        (first | rw [c26b0] | (simp only [i64_w, i32_w]; rw [c26b0]) | skip)
                        by_cases c27 : t266 = (t248.length : Int)
                        · rw [if_pos c27] at H
                          have c27b0 : (t266 == (t248.length : Int)) = true := beq_iff_eq.mpr c27
                          have c27b1 : (t266 != (t248.length : Int)) = false := bne_eq_false_iff_eq.mpr c27
                          clear c27
                          replace H := Option.bind_eq_some_iff.mp H
                          obtain ⟨t269, A280, H⟩ := H
                          replace H : (if t269.isNone = true then ((utf_Boundary.f y262 (y240.length : Int)).bind fun t271 => (cavillaw01_UtfBack.j0 k y240 y262 t266 (!t271))) else (cavillaw01_UtfBack.j0 k y240 y262 t266 true)) = some r := H
                          have A28 := Aside0.mk A280
                          clear A280
                          rcases t269 with _ | q270
                          · have H1 : ((utf_Boundary.f y262 (y240.length : Int)).bind fun t271 => (cavillaw01_UtfBack.j0 k y240 y262 t266 (!t271))) = some r := by rw [if_pos (show (none : Option Er).isNone = true by rfl)] at H; exact H
                            clear H
                            have H := H1
                            clear H1
                            try simp only [errW_none, errW_some, erT_no, erV_no, erT_at, erV_at]
                            replace H := Option.bind_eq_some_iff.mp H
                            obtain ⟨t271, A290, H⟩ := H
                            replace H : (cavillaw01_UtfBack.j0 k y240 y262 t266 (!t271)) = some r := H
                            have A29 := Aside0.mk A290
                            clear A290
                            have H' := Aside0.mk H
                            clear H
                            go_wp2_with (first | (go_at_call 31; (with_reducible refine (utf_Check.calls k _ _ t248 none _ ?side1 ?side2 A28.out).mono ?_); (case side1 => repeat (first | exact (Kd.R_reads' HO251.out).2.2 | (with_reducible refine Kd.C_alloc ?_ _) | (with_reducible refine Kd.C_drewN ?_ _) | (with_reducible refine Kd.C_drew ?_))); (case side2 => exact (Kd.R_reads' HO251.out).2.1); rintro e w' ⟨rfl, ⟨nd, rfl⟩⟩; (try simp only [errW_none, errW_some, erT_no, erV_no, erT_at, erV_at]); (try first | exact ⟨rfl, _, World.drewN_drewN _ _ _⟩ | exact ⟨rfl, _, Eq.trans (World.drewN_drewN _ _ _) (congrArg (World.drewN _) (Nat.add_assoc _ _ _))⟩)) | (go_at_call 32; (with_reducible refine (utf_Boundary.calls _ _ y262 (y240.length : Int) t271 _ ?side1 ?side2 A29.out).mono ?_); (case side1 => repeat (first | exact (Kd.R_reads' HO264.out).2.2 | (with_reducible refine Kd.C_alloc ?_ _) | (with_reducible refine Kd.C_drewN ?_ _) | (with_reducible refine Kd.C_drew ?_))); (case side2 => exact (Kd.R_reads' HO264.out).2.1); rintro e w' ⟨rfl, ⟨nd, rfl⟩⟩; (try first | exact ⟨rfl, _, World.drewN_drewN _ _ _⟩ | exact ⟨rfl, _, Eq.trans (World.drewN_drewN _ _ _) (congrArg (World.drewN _) (Nat.add_assoc _ _ _))⟩)))
                            repeat (go_quiet (first | (go_at_call 31; (with_reducible refine (utf_Check.calls k _ _ t248 none _ ?side1 ?side2 A28.out).mono ?_); (case side1 => repeat (first | exact (Kd.R_reads' HO251.out).2.2 | (with_reducible refine Kd.C_alloc ?_ _) | (with_reducible refine Kd.C_drewN ?_ _) | (with_reducible refine Kd.C_drew ?_))); (case side2 => exact (Kd.R_reads' HO251.out).2.1); rintro e w' ⟨rfl, ⟨nd, rfl⟩⟩; (try simp only [errW_none, errW_some, erT_no, erV_no, erT_at, erV_at]); (try first | exact ⟨rfl, _, World.drewN_drewN _ _ _⟩ | exact ⟨rfl, _, Eq.trans (World.drewN_drewN _ _ _) (congrArg (World.drewN _) (Nat.add_assoc _ _ _))⟩)) | (go_at_call 32; (with_reducible refine (utf_Boundary.calls _ _ y262 (y240.length : Int) t271 _ ?side1 ?side2 A29.out).mono ?_); (case side1 => repeat (first | exact (Kd.R_reads' HO264.out).2.2 | (with_reducible refine Kd.C_alloc ?_ _) | (with_reducible refine Kd.C_drewN ?_ _) | (with_reducible refine Kd.C_drew ?_))); (case side2 => exact (Kd.R_reads' HO264.out).2.1); rintro e w' ⟨rfl, ⟨nd, rfl⟩⟩; (try first | exact ⟨rfl, _, World.drewN_drewN _ _ _⟩ | exact ⟨rfl, _, Eq.trans (World.drewN_drewN _ _ _) (congrArg (World.drewN _) (Nat.add_assoc _ _ _))⟩))); try go_wp2_with (first | (go_at_call 31; (with_reducible refine (utf_Check.calls k _ _ t248 none _ ?side1 ?side2 A28.out).mono ?_); (case side1 => repeat (first | exact (Kd.R_reads' HO251.out).2.2 | (with_reducible refine Kd.C_alloc ?_ _) | (with_reducible refine Kd.C_drewN ?_ _) | (with_reducible refine Kd.C_drew ?_))); (case side2 => exact (Kd.R_reads' HO251.out).2.1); rintro e w' ⟨rfl, ⟨nd, rfl⟩⟩; (try simp only [errW_none, errW_some, erT_no, erV_no, erT_at, erV_at]); (try first | exact ⟨rfl, _, World.drewN_drewN _ _ _⟩ | exact ⟨rfl, _, Eq.trans (World.drewN_drewN _ _ _) (congrArg (World.drewN _) (Nat.add_assoc _ _ _))⟩)) | (go_at_call 32; (with_reducible refine (utf_Boundary.calls _ _ y262 (y240.length : Int) t271 _ ?side1 ?side2 A29.out).mono ?_); (case side1 => repeat (first | exact (Kd.R_reads' HO264.out).2.2 | (with_reducible refine Kd.C_alloc ?_ _) | (with_reducible refine Kd.C_drewN ?_ _) | (with_reducible refine Kd.C_drew ?_))); (case side2 => exact (Kd.R_reads' HO264.out).2.1); rintro e w' ⟨rfl, ⟨nd, rfl⟩⟩; (try first | exact ⟨rfl, _, World.drewN_drewN _ _ _⟩ | exact ⟨rfl, _, Eq.trans (World.drewN_drewN _ _ _) (congrArg (World.drewN _) (Nat.add_assoc _ _ _))⟩))))
                            go_meet
                            case rel => exact ⟨_, (!t271), (by first | rfl | (simp; done) | (simp [*]; done)), H', ⟨by first | omega | exact Nat.le_refl _⟩, ⟨by (with_reducible repeat (first | apply Kd.R_alloc | apply Kd.R_drewN | apply Kd.R_drew)); exact Kd.R_mono HO264.out (fun _ hk => trivial)⟩, ⟨by repeat (first | (with_reducible first | exact HB.out | apply below_alloc | apply pw_below_drewN | apply below_drew1) | exact HB.out)⟩⟩
                          · have H1 : (cavillaw01_UtfBack.j0 k y240 y262 t266 true) = some r := by rw [if_neg (show ¬ (some q270).isNone = true by simp)] at H; exact H
                            clear H
                            have H := H1
                            clear H1
                            try simp only [errW_none, errW_some, erT_no, erV_no, erT_at, erV_at]
                            have H' := Aside0.mk H
                            clear H
                            go_wp2_with (first | (go_at_call 31; (with_reducible refine (utf_Check.calls k _ _ t248 (some q270) _ ?side1 ?side2 A28.out).mono ?_); (case side1 => repeat (first | exact (Kd.R_reads' HO251.out).2.2 | (with_reducible refine Kd.C_alloc ?_ _) | (with_reducible refine Kd.C_drewN ?_ _) | (with_reducible refine Kd.C_drew ?_))); (case side2 => exact (Kd.R_reads' HO251.out).2.1); rintro e w' ⟨rfl, ⟨nd, rfl⟩⟩; (try simp only [errW_none, errW_some, erT_no, erV_no, erT_at, erV_at]); (try first | exact ⟨rfl, _, World.drewN_drewN _ _ _⟩ | exact ⟨rfl, _, Eq.trans (World.drewN_drewN _ _ _) (congrArg (World.drewN _) (Nat.add_assoc _ _ _))⟩)))
                            repeat (go_quiet (first | (go_at_call 31; (with_reducible refine (utf_Check.calls k _ _ t248 (some q270) _ ?side1 ?side2 A28.out).mono ?_); (case side1 => repeat (first | exact (Kd.R_reads' HO251.out).2.2 | (with_reducible refine Kd.C_alloc ?_ _) | (with_reducible refine Kd.C_drewN ?_ _) | (with_reducible refine Kd.C_drew ?_))); (case side2 => exact (Kd.R_reads' HO251.out).2.1); rintro e w' ⟨rfl, ⟨nd, rfl⟩⟩; (try simp only [errW_none, errW_some, erT_no, erV_no, erT_at, erV_at]); (try first | exact ⟨rfl, _, World.drewN_drewN _ _ _⟩ | exact ⟨rfl, _, Eq.trans (World.drewN_drewN _ _ _) (congrArg (World.drewN _) (Nat.add_assoc _ _ _))⟩))); try go_wp2_with (first | (go_at_call 31; (with_reducible refine (utf_Check.calls k _ _ t248 (some q270) _ ?side1 ?side2 A28.out).mono ?_); (case side1 => repeat (first | exact (Kd.R_reads' HO251.out).2.2 | (with_reducible refine Kd.C_alloc ?_ _) | (with_reducible refine Kd.C_drewN ?_ _) | (with_reducible refine Kd.C_drew ?_))); (case side2 => exact (Kd.R_reads' HO251.out).2.1); rintro e w' ⟨rfl, ⟨nd, rfl⟩⟩; (try simp only [errW_none, errW_some, erT_no, erV_no, erT_at, erV_at]); (try first | exact ⟨rfl, _, World.drewN_drewN _ _ _⟩ | exact ⟨rfl, _, Eq.trans (World.drewN_drewN _ _ _) (congrArg (World.drewN _) (Nat.add_assoc _ _ _))⟩))))
                            go_meet
                            case rel => exact ⟨_, (true), (by first | rfl | (simp; done) | (simp [*]; done)), H', ⟨by first | omega | exact Nat.le_refl _⟩, ⟨by (with_reducible repeat (first | apply Kd.R_alloc | apply Kd.R_drewN | apply Kd.R_drew)); exact Kd.R_mono HO264.out (fun _ hk => trivial)⟩, ⟨by repeat (first | (with_reducible first | exact HB.out | apply below_alloc | apply pw_below_drewN | apply below_drew1) | exact HB.out)⟩⟩
                        · rw [if_neg c27] at H
                          have c27b0 : (t266 == (t248.length : Int)) = false := beq_eq_false_iff_ne.mpr c27
                          have c27b1 : (t266 != (t248.length : Int)) = true := bne_iff_ne.mpr c27
                          have H' := Aside0.mk H
                          clear H
                          go_wp2
                          repeat (go_quiet (fail); try go_wp2)
                          go_meet
                          case rel => exact ⟨_, (true), (by first | rfl | (simp; done) | (simp [*]; done)), H', ⟨by first | omega | exact Nat.le_refl _⟩, ⟨by (with_reducible repeat (first | apply Kd.R_alloc | apply Kd.R_drewN | apply Kd.R_drew)); exact Kd.R_mono HO264.out (fun _ hk => trivial)⟩, ⟨by repeat (first | (with_reducible first | exact HB.out | apply below_alloc | apply pw_below_drewN | apply below_drew1) | exact HB.out)⟩⟩
                      · rw [if_neg c26] at H
                        have c26b0 : (t265 == a0) = false := beq_eq_false_iff_ne.mpr c26
                        have c26b1 : (t265 != a0) = true := bne_iff_ne.mpr c26
                        (first | rw [c26b0] | (simp only [i64_w, i32_w]; rw [c26b0]) | skip)
                        have H' := Aside0.mk H
                        clear H
                        go_wp2
                        repeat (go_quiet (fail); try go_wp2)
                        go_meet
                        case rel => exact ⟨_, (true), (by first | rfl | (simp; done) | (simp [*]; done)), H', ⟨by first | omega | exact Nat.le_refl _⟩, ⟨by (with_reducible repeat (first | apply Kd.R_alloc | apply Kd.R_drewN | apply Kd.R_drew)); exact Kd.R_mono HO264.out (fun _ hk => trivial)⟩, ⟨by repeat (first | (with_reducible first | exact HB.out | apply below_alloc | apply pw_below_drewN | apply below_drew1) | exact HB.out)⟩⟩
                    · have H1 : (cavillaw01_UtfBack.j0 k y240 y262 t266 true) = some r := by rw [if_neg (show ¬ (some q268).isNone = true by simp)] at H; exact H
                      clear H
                      have H := H1
                      clear H1
                      try simp only [errW_none, errW_some, erT_no, erV_no, erT_at, erV_at]
                      have H' := Aside0.mk H
                      clear H
                      go_wp2
                      repeat (go_quiet (fail); try go_wp2)
                      go_meet
                      case rel => exact ⟨_, (true), (by first | rfl | (simp; done) | (simp [*]; done)), H', ⟨by first | omega | exact Nat.le_refl _⟩, ⟨by (with_reducible repeat (first | apply Kd.R_alloc | apply Kd.R_drewN | apply Kd.R_drew)); exact Kd.R_mono HO264.out (fun _ hk => trivial)⟩, ⟨by repeat (first | (with_reducible first | exact HB.out | apply below_alloc | apply pw_below_drewN | apply below_drew1) | exact HB.out)⟩⟩
                  case rest =>
                    clear HC15
                    try clear c1
                    try clear q1
                    try clear c2
                    try clear p2
                    try clear q2
                    try clear c5
                    try clear c5b0
                    try clear c5b1
                    try clear c6
                    try clear c6b0
                    try clear c6b1
                    try clear c8
                    try clear c8b0
                    try clear c8b1
                    try clear c9
                    try clear c9b0
                    try clear c9b1
                    try clear c11
                    try clear c12
                    try clear c13
                    try clear q16
                    try clear q17
                    try clear q25
                    try clear c26
                    try clear c26b0
                    try clear c26b1
                    try clear q26
                    try clear c27
                    try clear c27b0
                    try clear c27b1
                    try clear q27
                    try clear q16
                    try clear q17
                    try clear q252
                    try clear q268
                    try clear q270
                    obtain ⟨kq, x76_14, rfl, HA, HJ14, HO_9, HB⟩ := hcut
                    cases kq with
                    | zero => exact absurd HA.out (by simp [cavillaw01_UtfBack.j0])
                    | succ kj14 =>
                      have H := HA.out
                      clear HA
                      simp only [cavillaw01_UtfBack.j0] at H
                      by_cases c30 : x76_14 = true
                      · subst c30
                        have H1 : (some false) = some r := by rw [if_pos rfl] at H; exact H
                        clear H
                        have H := H1
                        clear H1
                        obtain rfl := Option.some.inj H
                        go_wp2
                        repeat (go_quiet (fail); try go_wp2)
                        go_ret
                        exact ⟨by first | rfl | (simp [errW_none, errW_some, erT_no, erV_no, erT_at, erV_at] <;> rfl) | (simp only [← hji4, ← hji7]; first | rfl | (simp [errW_none, errW_some, erT_no, erV_no, erT_at, erV_at] <;> rfl)) | (simp [*, errW_none, errW_some, erT_no, erV_no, erT_at, erV_at] <;> rfl), by repeat (first | (with_reducible first | exact HB.out | apply below_alloc | apply pw_below_drewN | apply below_drew1) | exact HB.out)⟩
                      · replace c30 := Bool.eq_false_iff.mpr c30
                        subst c30
                        have H1 : (cavillaw01_UtfBack.l0 kj14 y240 y262 t266 1) = some r := by rw [if_neg (show ¬ (false = true) by decide)] at H; exact H
                        clear H
                        have H := H1
                        clear H1
                        have H' := Aside0.mk H
                        clear H
                        go_wp2
                        repeat (go_quiet (fail); try go_wp2)
                        go_loopg [13] kj14 (fun kq v13 w' => ∃ (x13_2 : Int), v13 = .int .i64 x13_2 ∧ Aside0 (cavillaw01_UtfBack.l0 kq y240 y262 t266 x13_2 = some r) ∧ Aside0 (kq ≤ kj14) ∧ Aside0 (Kd.R (Kd.int .u8) 5 w' w.heap.size (fun _ => True) (.slice Ao25 y262.length co25) y262) ∧ Aside0 (Below w.heap.size w w'))
                        case atStart => exact ⟨(1), (by first | rfl | (simp; done) | (simp [*]; done)), H', ⟨Nat.le_refl _⟩, ⟨by (with_reducible repeat (first | apply Kd.R_alloc | apply Kd.R_drewN | apply Kd.R_drew)); exact HO_9.out⟩, ⟨by repeat (first | (with_reducible first | exact HB.out | apply below_alloc | apply pw_below_drewN | apply below_drew1) | exact HB.out)⟩⟩
                        case round =>
                          clear H'
                          try clear c1
                          try clear q1
                          try clear c2
                          try clear p2
                          try clear q2
                          try clear c3
                          try clear c5
                          try clear c5b0
                          try clear c5b1
                          try clear c6
                          try clear c6b0
                          try clear c6b1
                          try clear c8
                          try clear c8b0
                          try clear c8b1
                          try clear c9
                          try clear c9b0
                          try clear c9b1
                          try clear c11
                          try clear c12
                          try clear c13
                          try clear q16
                          try clear q17
                          try clear q25
                          try clear c26
                          try clear c26b0
                          try clear c26b1
                          try clear q26
                          try clear c27
                          try clear c27b0
                          try clear c27b1
                          try clear q27
                          try clear c30
                          try clear p2
                          try clear q1
                          try clear q16
                          try clear q17
                          try clear q2
                          try clear q25
                          try clear q252
                          try clear q26
                          try clear q268
                          try clear q27
                          try clear q270
                          obtain ⟨x13_2, rfl, HA, HK2, HO_9, HB⟩ := hrel
                          cases gk with
                          | zero => exact absurd HA.out (by simp [cavillaw01_UtfBack.l0])
                          | succ k2 =>
                            have H := HA.out
                            clear HA
                            simp only [cavillaw01_UtfBack.l0] at H
                            by_cases c31 : x13_2 < t266
                            · rw [if_pos c31] at H
                              have c31b0 : decide (x13_2 < t266) = true := decide_eq_true c31
                              clear c31
                              replace H := Option.bind_eq_some_iff.mp H
                              obtain ⟨t272, A320, H⟩ := H
                              replace H : (if t272 = true then (some false) else (cavillaw01_UtfBack.l0 k2 y240 y262 t266 (wrap64 (x13_2 + 1)))) = some r := H
                              have A32 := Aside0.mk A320
                              clear A320
                              by_cases c33 : t272 = true
                              · subst c33
                                have H1 : (some false) = some r := by rw [if_pos rfl] at H; exact H
                                clear H
                                have H := H1
                                clear H1
                                obtain rfl := Option.some.inj H
                                go_wp2_with (first | (go_at_call 32; (with_reducible refine (utf_Boundary.calls _ _ y262 (wrap64 ((y240.length : Int) + x13_2)) true _ ?side1 ?side2 A32.out).mono ?_); (case side1 => repeat (first | exact (Kd.R_reads' HO_9.out).2.2 | (with_reducible refine Kd.C_alloc ?_ _) | (with_reducible refine Kd.C_drewN ?_ _) | (with_reducible refine Kd.C_drew ?_))); (case side2 => exact (Kd.R_reads' HO_9.out).2.1); rintro e w' ⟨rfl, ⟨nd, rfl⟩⟩; (try first | exact ⟨rfl, _, World.drewN_drewN _ _ _⟩ | exact ⟨rfl, _, Eq.trans (World.drewN_drewN _ _ _) (congrArg (World.drewN _) (Nat.add_assoc _ _ _))⟩)))
                                repeat (go_quiet (first | (go_at_call 32; (with_reducible refine (utf_Boundary.calls _ _ y262 (wrap64 ((y240.length : Int) + x13_2)) true _ ?side1 ?side2 A32.out).mono ?_); (case side1 => repeat (first | exact (Kd.R_reads' HO_9.out).2.2 | (with_reducible refine Kd.C_alloc ?_ _) | (with_reducible refine Kd.C_drewN ?_ _) | (with_reducible refine Kd.C_drew ?_))); (case side2 => exact (Kd.R_reads' HO_9.out).2.1); rintro e w' ⟨rfl, ⟨nd, rfl⟩⟩; (try first | exact ⟨rfl, _, World.drewN_drewN _ _ _⟩ | exact ⟨rfl, _, Eq.trans (World.drewN_drewN _ _ _) (congrArg (World.drewN _) (Nat.add_assoc _ _ _))⟩))); try go_wp2_with (first | (go_at_call 32; (with_reducible refine (utf_Boundary.calls _ _ y262 (wrap64 ((y240.length : Int) + x13_2)) true _ ?side1 ?side2 A32.out).mono ?_); (case side1 => repeat (first | exact (Kd.R_reads' HO_9.out).2.2 | (with_reducible refine Kd.C_alloc ?_ _) | (with_reducible refine Kd.C_drewN ?_ _) | (with_reducible refine Kd.C_drew ?_))); (case side2 => exact (Kd.R_reads' HO_9.out).2.1); rintro e w' ⟨rfl, ⟨nd, rfl⟩⟩; (try first | exact ⟨rfl, _, World.drewN_drewN _ _ _⟩ | exact ⟨rfl, _, Eq.trans (World.drewN_drewN _ _ _) (congrArg (World.drewN _) (Nat.add_assoc _ _ _))⟩))))
                                go_ret
                                exact ⟨by first | rfl | (simp [errW_none, errW_some, erT_no, erV_no, erT_at, erV_at] <;> rfl) | (simp only [← hji4, ← hji7]; first | rfl | (simp [errW_none, errW_some, erT_no, erV_no, erT_at, erV_at] <;> rfl)) | (simp [*, errW_none, errW_some, erT_no, erV_no, erT_at, erV_at] <;> rfl), by repeat (first | (with_reducible first | exact HB.out | apply below_alloc | apply pw_below_drewN | apply below_drew1) | exact HB.out)⟩
                              · replace c33 := Bool.eq_false_iff.mpr c33
                                subst c33
                                have H1 : (cavillaw01_UtfBack.l0 k2 y240 y262 t266 (wrap64 (x13_2 + 1))) = some r := by rw [if_neg (show ¬ (false = true) by decide)] at H; exact H
                                clear H
                                have H := H1
                                clear H1
                                have H' := Aside0.mk H
                                clear H
                                go_wp2_with (first | (go_at_call 32; (with_reducible refine (utf_Boundary.calls _ _ y262 (wrap64 ((y240.length : Int) + x13_2)) false _ ?side1 ?side2 A32.out).mono ?_); (case side1 => repeat (first | exact (Kd.R_reads' HO_9.out).2.2 | (with_reducible refine Kd.C_alloc ?_ _) | (with_reducible refine Kd.C_drewN ?_ _) | (with_reducible refine Kd.C_drew ?_))); (case side2 => exact (Kd.R_reads' HO_9.out).2.1); rintro e w' ⟨rfl, ⟨nd, rfl⟩⟩; (try first | exact ⟨rfl, _, World.drewN_drewN _ _ _⟩ | exact ⟨rfl, _, Eq.trans (World.drewN_drewN _ _ _) (congrArg (World.drewN _) (Nat.add_assoc _ _ _))⟩)))
                                repeat (go_quiet (first | (go_at_call 32; (with_reducible refine (utf_Boundary.calls _ _ y262 (wrap64 ((y240.length : Int) + x13_2)) false _ ?side1 ?side2 A32.out).mono ?_); (case side1 => repeat (first | exact (Kd.R_reads' HO_9.out).2.2 | (with_reducible refine Kd.C_alloc ?_ _) | (with_reducible refine Kd.C_drewN ?_ _) | (with_reducible refine Kd.C_drew ?_))); (case side2 => exact (Kd.R_reads' HO_9.out).2.1); rintro e w' ⟨rfl, ⟨nd, rfl⟩⟩; (try first | exact ⟨rfl, _, World.drewN_drewN _ _ _⟩ | exact ⟨rfl, _, Eq.trans (World.drewN_drewN _ _ _) (congrArg (World.drewN _) (Nat.add_assoc _ _ _))⟩))); try go_wp2_with (first | (go_at_call 32; (with_reducible refine (utf_Boundary.calls _ _ y262 (wrap64 ((y240.length : Int) + x13_2)) false _ ?side1 ?side2 A32.out).mono ?_); (case side1 => repeat (first | exact (Kd.R_reads' HO_9.out).2.2 | (with_reducible refine Kd.C_alloc ?_ _) | (with_reducible refine Kd.C_drewN ?_ _) | (with_reducible refine Kd.C_drew ?_))); (case side2 => exact (Kd.R_reads' HO_9.out).2.1); rintro e w' ⟨rfl, ⟨nd, rfl⟩⟩; (try first | exact ⟨rfl, _, World.drewN_drewN _ _ _⟩ | exact ⟨rfl, _, Eq.trans (World.drewN_drewN _ _ _) (congrArg (World.drewN _) (Nat.add_assoc _ _ _))⟩))))
                                go_roundg k2
                                case measure => have := HJ14.out; have := HK2.out; omega
                                case rel => exact ⟨(wrap64 (x13_2 + 1)), (by first | rfl | (simp; done) | (simp [*]; done)), H', ⟨by have := HJ14.out; have := HK2.out; omega⟩, ⟨by (with_reducible repeat (first | apply Kd.R_alloc | apply Kd.R_drewN | apply Kd.R_drew)); exact HO_9.out⟩, ⟨by repeat (first | (with_reducible first | exact HB.out | apply below_alloc | apply pw_below_drewN | apply below_drew1) | exact HB.out)⟩⟩
                            · rw [if_neg c31] at H
                              have c31b0 : decide (x13_2 < t266) = false := decide_eq_false c31
                              clear c31
                              replace H := Option.bind_eq_some_iff.mp H
                              obtain ⟨t273, A340, H⟩ := H
                              replace H : (some t273) = some r := H
                              have A34 := Aside0.mk A340
                              clear A340
                              obtain rfl := Option.some.inj H
                              go_wp2_with (first | (go_at_call 30; (with_reducible refine (cavillaw01_works.calls k2  t273 _ ?side1 A34.out).mono ?_); (case side1 => repeat (first | exact (GL_below HG.out HB.out) | exact HG.out | (with_reducible refine GL_alloc ?_ _) | (with_reducible refine GL_drewN ?_ _) | (with_reducible refine GL_drew ?_))); rintro e w35 ⟨rfl, hb⟩; have n0_ := Aside0.mk (Kd.R_below (by (with_reducible repeat (first | apply Kd.R_alloc | apply Kd.R_drewN | apply Kd.R_drew)); exact HO_9.out) hb); have n1_ := Aside0.mk (below_step (by repeat (first | (with_reducible first | exact HB.out | apply below_alloc | apply pw_below_drewN | apply below_drew1) | exact HB.out)) hb); clear HO_9; clear HB; have HO_9 := n0_; have HB := n1_; clear n0_ n1_; (try clear hb); (try clear hb2); (try clear hk); (try clear hi)))
                              repeat (go_quiet (first | (go_at_call 30; (with_reducible refine (cavillaw01_works.calls k2  t273 _ ?side1 A34.out).mono ?_); (case side1 => repeat (first | exact (GL_below HG.out HB.out) | exact HG.out | (with_reducible refine GL_alloc ?_ _) | (with_reducible refine GL_drewN ?_ _) | (with_reducible refine GL_drew ?_))); rintro e w35 ⟨rfl, hb⟩; have n0_ := Aside0.mk (Kd.R_below (by (with_reducible repeat (first | apply Kd.R_alloc | apply Kd.R_drewN | apply Kd.R_drew)); exact HO_9.out) hb); have n1_ := Aside0.mk (below_step (by repeat (first | (with_reducible first | exact HB.out | apply below_alloc | apply pw_below_drewN | apply below_drew1) | exact HB.out)) hb); clear HO_9; clear HB; have HO_9 := n0_; have HB := n1_; clear n0_ n1_; (try clear hb); (try clear hb2); (try clear hk); (try clear hi))); try go_wp2_with (first | (go_at_call 30; (with_reducible refine (cavillaw01_works.calls k2  t273 _ ?side1 A34.out).mono ?_); (case side1 => repeat (first | exact (GL_below HG.out HB.out) | exact HG.out | (with_reducible refine GL_alloc ?_ _) | (with_reducible refine GL_drewN ?_ _) | (with_reducible refine GL_drew ?_))); rintro e w35 ⟨rfl, hb⟩; have n0_ := Aside0.mk (Kd.R_below (by (with_reducible repeat (first | apply Kd.R_alloc | apply Kd.R_drewN | apply Kd.R_drew)); exact HO_9.out) hb); have n1_ := Aside0.mk (below_step (by repeat (first | (with_reducible first | exact HB.out | apply below_alloc | apply pw_below_drewN | apply below_drew1) | exact HB.out)) hb); clear HO_9; clear HB; have HO_9 := n0_; have HB := n1_; clear n0_ n1_; (try clear hb); (try clear hb2); (try clear hk); (try clear hi))))
                              go_ret
                              exact ⟨by first | rfl | (simp [errW_none, errW_some, erT_no, erV_no, erT_at, erV_at] <;> rfl) | (simp only [← hji4, ← hji7]; first | rfl | (simp [errW_none, errW_some, erT_no, erV_no, erT_at, erV_at] <;> rfl)) | (simp [*, errW_none, errW_some, erT_no, erV_no, erT_at, erV_at] <;> rfl), by repeat (first | (with_reducible first | exact HB.out | apply below_alloc | apply pw_below_drewN | apply below_drew1) | exact HB.out)⟩
                · rw [if_neg c13] at H
                  exact absurd H (by simp)
              · rw [if_neg c12] at H
                exact absurd H (by simp)
            · rw [if_neg c11] at H
              exact absurd H (by simp)
          · have H1 : (if (t248.length : Int) = 0 then ((cavillaw01_works.f k).bind fun t274 => (some t274)) else (some false)) = some r := by rw [if_neg (show ¬ (some q252).isNone = true by simp)] at H; exact H
            clear H
            have H := H1
            clear H1
            try simp only [errW_none, errW_some, erT_no, erV_no, erT_at, erV_at]
            by_cases c36 : (t248.length : Int) = 0
            · rw [if_pos c36] at H
              have c36b0 : ((t248.length : Int) == 0) = true := beq_iff_eq.mpr c36
              have c36b1 : ((t248.length : Int) != 0) = false := bne_eq_false_iff_eq.mpr c36
              clear c36
              replace H := Option.bind_eq_some_iff.mp H
              obtain ⟨t274, A370, H⟩ := H
              replace H : (some t274) = some r := H
              have A37 := Aside0.mk A370
              clear A370
              obtain rfl := Option.some.inj H
              have q38 : ((ji4) : Int) ≤ ((l1.length : Int) : Int) := of_decide_eq_true (by first | (with_reducible assumption) | assumption)
              obtain ⟨i038, hi038, _, hsz38, _⟩ := info_parts info5
              have hroom38 : l1.length ≤ c1 := HC1.out
              have hC38 : Kd.C (Kd.int .u8) _ A1 l1.length l1 := HR1.out
              have hcut38 := cut_to (P := Tryd.prog) 47 5 .i64 Tryd.underlying47 hi038 A1 l1.length c1 (ji4) (of_decide_eq_true (by first | (with_reducible assumption) | assumption)) q38 hroom38
              have hr38 := Kd.C_take (m := ((ji4) : Int).toNat) hC38 (by omega)
              have hy38 : y240.length = ((ji4) : Int).toNat := (by rw [Ny240.out, List.length_take]; omega)
              rw [← Ny240.out] at hr38
              rw [← hy38] at hcut38
              have HR243 := Aside0.mk hr38
              have HC243 := Aside0.mk (show y240.length ≤ c1 from by omega)
              clear hr38 hC38 hroom38 hi038 hsz38
              have KY38 := Aside0.mk hy38
              clear hy38
              replace q38 := eq_true q38
              have q39 : ((ji7) : Int) ≤ ((l2.length : Int) : Int) := of_decide_eq_true (by first | (with_reducible assumption) | assumption)
              obtain ⟨i039, hi039, _, hsz39, _⟩ := info_parts info5
              have hroom39 : l2.length ≤ c2 := HC2.out
              have hC39 : Kd.C (Kd.int .u8) _ A2 l2.length l2 := HR2.out
              have hcut39 := cut_to (P := Tryd.prog) 47 5 .i64 Tryd.underlying47 hi039 A2 l2.length c2 (ji7) (of_decide_eq_true (by first | (with_reducible assumption) | assumption)) q39 hroom39
              have hr39 := Kd.C_take (m := ((ji7) : Int).toNat) hC39 (by omega)
              have hy39 : y244.length = ((ji7) : Int).toNat := (by rw [Ny244.out, List.length_take]; omega)
              rw [← Ny244.out] at hr39
              rw [← hy39] at hcut39
              have HR247 := Aside0.mk hr39
              have HC247 := Aside0.mk (show y244.length ≤ c2 from by omega)
              clear hr39 hC39 hroom39 hi039 hsz39
              have KY39 := Aside0.mk hy39
              clear hy39
              replace q39 := eq_true q39
              go_enter Tryd.func6, Tryd.ntmps6
              go_wp2_with (first | (go_at_call 27; (with_reducible refine (utf_Encode.calls a0 t248 (some q252) _ A10.out).mono ?_); rintro e w40 ⟨v250, rfl, ho0, hb⟩; have n0_ := Aside0.mk (Kd.R_lower ho0 (below_size (by repeat (first | (with_reducible first | exact HB.out | apply below_alloc | apply pw_below_drewN | apply below_drew1) | exact HB.out)))); have n1_ := Aside0.mk (below_step (by repeat (first | (with_reducible first | exact HB.out | apply below_alloc | apply pw_below_drewN | apply below_drew1) | exact HB.out)) hb); clear HB; have HO251 := n0_; have HB := n1_; clear n0_ n1_; (try clear hb); (try clear hb2); (try clear hk); (try clear hi); (try clear ho0); (try simp only [errW_none, errW_some, erT_no, erV_no, erT_at, erV_at]); obtain ⟨Ao41, co41, eo41⟩ := Kd.R_slice HO251.out; subst eo41) | (go_at_call 30; (with_reducible refine (cavillaw01_works.calls k  t274 _ ?side1 A37.out).mono ?_); (case side1 => repeat (first | exact (GL_below HG.out HB.out) | exact HG.out | (with_reducible refine GL_alloc ?_ _) | (with_reducible refine GL_drewN ?_ _) | (with_reducible refine GL_drew ?_))); rintro e w42 ⟨rfl, hb⟩; have n0_ := Aside0.mk (Kd.R_below (by (with_reducible repeat (first | apply Kd.R_alloc | apply Kd.R_drewN | apply Kd.R_drew)); exact HO251.out) hb); have n1_ := Aside0.mk (below_step (by repeat (first | (with_reducible first | exact HB.out | apply below_alloc | apply pw_below_drewN | apply below_drew1) | exact HB.out)) hb); clear HO251; clear HB; have HO251 := n0_; have HB := n1_; clear n0_ n1_; (try clear hb); (try clear hb2); (try clear hk); (try clear hi)))
              repeat (go_quiet (first | (go_at_call 27; (with_reducible refine (utf_Encode.calls a0 t248 (some q252) _ A10.out).mono ?_); rintro e w40 ⟨v250, rfl, ho0, hb⟩; have n0_ := Aside0.mk (Kd.R_lower ho0 (below_size (by repeat (first | (with_reducible first | exact HB.out | apply below_alloc | apply pw_below_drewN | apply below_drew1) | exact HB.out)))); have n1_ := Aside0.mk (below_step (by repeat (first | (with_reducible first | exact HB.out | apply below_alloc | apply pw_below_drewN | apply below_drew1) | exact HB.out)) hb); clear HB; have HO251 := n0_; have HB := n1_; clear n0_ n1_; (try clear hb); (try clear hb2); (try clear hk); (try clear hi); (try clear ho0); (try simp only [errW_none, errW_some, erT_no, erV_no, erT_at, erV_at]); obtain ⟨Ao41, co41, eo41⟩ := Kd.R_slice HO251.out; subst eo41) | (go_at_call 30; (with_reducible refine (cavillaw01_works.calls k  t274 _ ?side1 A37.out).mono ?_); (case side1 => repeat (first | exact (GL_below HG.out HB.out) | exact HG.out | (with_reducible refine GL_alloc ?_ _) | (with_reducible refine GL_drewN ?_ _) | (with_reducible refine GL_drew ?_))); rintro e w42 ⟨rfl, hb⟩; have n0_ := Aside0.mk (Kd.R_below (by (with_reducible repeat (first | apply Kd.R_alloc | apply Kd.R_drewN | apply Kd.R_drew)); exact HO251.out) hb); have n1_ := Aside0.mk (below_step (by repeat (first | (with_reducible first | exact HB.out | apply below_alloc | apply pw_below_drewN | apply below_drew1) | exact HB.out)) hb); clear HO251; clear HB; have HO251 := n0_; have HB := n1_; clear n0_ n1_; (try clear hb); (try clear hb2); (try clear hk); (try clear hi))); try go_wp2_with (first | (go_at_call 27; (with_reducible refine (utf_Encode.calls a0 t248 (some q252) _ A10.out).mono ?_); rintro e w40 ⟨v250, rfl, ho0, hb⟩; have n0_ := Aside0.mk (Kd.R_lower ho0 (below_size (by repeat (first | (with_reducible first | exact HB.out | apply below_alloc | apply pw_below_drewN | apply below_drew1) | exact HB.out)))); have n1_ := Aside0.mk (below_step (by repeat (first | (with_reducible first | exact HB.out | apply below_alloc | apply pw_below_drewN | apply below_drew1) | exact HB.out)) hb); clear HB; have HO251 := n0_; have HB := n1_; clear n0_ n1_; (try clear hb); (try clear hb2); (try clear hk); (try clear hi); (try clear ho0); (try simp only [errW_none, errW_some, erT_no, erV_no, erT_at, erV_at]); obtain ⟨Ao41, co41, eo41⟩ := Kd.R_slice HO251.out; subst eo41) | (go_at_call 30; (with_reducible refine (cavillaw01_works.calls k  t274 _ ?side1 A37.out).mono ?_); (case side1 => repeat (first | exact (GL_below HG.out HB.out) | exact HG.out | (with_reducible refine GL_alloc ?_ _) | (with_reducible refine GL_drewN ?_ _) | (with_reducible refine GL_drew ?_))); rintro e w42 ⟨rfl, hb⟩; have n0_ := Aside0.mk (Kd.R_below (by (with_reducible repeat (first | apply Kd.R_alloc | apply Kd.R_drewN | apply Kd.R_drew)); exact HO251.out) hb); have n1_ := Aside0.mk (below_step (by repeat (first | (with_reducible first | exact HB.out | apply below_alloc | apply pw_below_drewN | apply below_drew1) | exact HB.out)) hb); clear HO251; clear HB; have HO251 := n0_; have HB := n1_; clear n0_ n1_; (try clear hb); (try clear hb2); (try clear hk); (try clear hi))))
              go_ret
              exact ⟨by first | rfl | (simp [errW_none, errW_some, erT_no, erV_no, erT_at, erV_at] <;> rfl) | (simp only [← hji4, ← hji7]; first | rfl | (simp [errW_none, errW_some, erT_no, erV_no, erT_at, erV_at] <;> rfl)) | (simp [*, errW_none, errW_some, erT_no, erV_no, erT_at, erV_at] <;> rfl), by repeat (first | (with_reducible first | exact HB.out | apply below_alloc | apply pw_below_drewN | apply below_drew1) | exact HB.out)⟩
            · rw [if_neg c36] at H
              have c36b0 : ((t248.length : Int) == 0) = false := beq_eq_false_iff_ne.mpr c36
              have c36b1 : ((t248.length : Int) != 0) = true := bne_iff_ne.mpr c36
              have c36b2 : ¬ (t248 = []) := fun h_ => c36 (by rw [h_]; rfl)
              obtain rfl := Option.some.inj H
              have q43 : ((ji4) : Int) ≤ ((l1.length : Int) : Int) := of_decide_eq_true (by first | (with_reducible assumption) | assumption)
              obtain ⟨i043, hi043, _, hsz43, _⟩ := info_parts info5
              have hroom43 : l1.length ≤ c1 := HC1.out
              have hC43 : Kd.C (Kd.int .u8) _ A1 l1.length l1 := HR1.out
              have hcut43 := cut_to (P := Tryd.prog) 47 5 .i64 Tryd.underlying47 hi043 A1 l1.length c1 (ji4) (of_decide_eq_true (by first | (with_reducible assumption) | assumption)) q43 hroom43
              have hr43 := Kd.C_take (m := ((ji4) : Int).toNat) hC43 (by omega)
              have hy43 : y240.length = ((ji4) : Int).toNat := (by rw [Ny240.out, List.length_take]; omega)
              rw [← Ny240.out] at hr43
              rw [← hy43] at hcut43
              have HR243 := Aside0.mk hr43
              have HC243 := Aside0.mk (show y240.length ≤ c1 from by omega)
              clear hr43 hC43 hroom43 hi043 hsz43
              have KY43 := Aside0.mk hy43
              clear hy43
              replace q43 := eq_true q43
              have q44 : ((ji7) : Int) ≤ ((l2.length : Int) : Int) := of_decide_eq_true (by first | (with_reducible assumption) | assumption)
              obtain ⟨i044, hi044, _, hsz44, _⟩ := info_parts info5
              have hroom44 : l2.length ≤ c2 := HC2.out
              have hC44 : Kd.C (Kd.int .u8) _ A2 l2.length l2 := HR2.out
              have hcut44 := cut_to (P := Tryd.prog) 47 5 .i64 Tryd.underlying47 hi044 A2 l2.length c2 (ji7) (of_decide_eq_true (by first | (with_reducible assumption) | assumption)) q44 hroom44
              have hr44 := Kd.C_take (m := ((ji7) : Int).toNat) hC44 (by omega)
              have hy44 : y244.length = ((ji7) : Int).toNat := (by rw [Ny244.out, List.length_take]; omega)
              rw [← Ny244.out] at hr44
              rw [← hy44] at hcut44
              have HR247 := Aside0.mk hr44
              have HC247 := Aside0.mk (show y244.length ≤ c2 from by omega)
              clear hr44 hC44 hroom44 hi044 hsz44
              have KY44 := Aside0.mk hy44
              clear hy44
              replace q44 := eq_true q44
              go_enter Tryd.func6, Tryd.ntmps6
              go_wp2_with (first | (go_at_call 27; (with_reducible refine (utf_Encode.calls a0 t248 (some q252) _ A10.out).mono ?_); rintro e w45 ⟨v250, rfl, ho0, hb⟩; have n0_ := Aside0.mk (Kd.R_lower ho0 (below_size (by repeat (first | (with_reducible first | exact HB.out | apply below_alloc | apply pw_below_drewN | apply below_drew1) | exact HB.out)))); have n1_ := Aside0.mk (below_step (by repeat (first | (with_reducible first | exact HB.out | apply below_alloc | apply pw_below_drewN | apply below_drew1) | exact HB.out)) hb); clear HB; have HO251 := n0_; have HB := n1_; clear n0_ n1_; (try clear hb); (try clear hb2); (try clear hk); (try clear hi); (try clear ho0); (try simp only [errW_none, errW_some, erT_no, erV_no, erT_at, erV_at]); obtain ⟨Ao46, co46, eo46⟩ := Kd.R_slice HO251.out; subst eo46))
              repeat (go_quiet (first | (go_at_call 27; (with_reducible refine (utf_Encode.calls a0 t248 (some q252) _ A10.out).mono ?_); rintro e w45 ⟨v250, rfl, ho0, hb⟩; have n0_ := Aside0.mk (Kd.R_lower ho0 (below_size (by repeat (first | (with_reducible first | exact HB.out | apply below_alloc | apply pw_below_drewN | apply below_drew1) | exact HB.out)))); have n1_ := Aside0.mk (below_step (by repeat (first | (with_reducible first | exact HB.out | apply below_alloc | apply pw_below_drewN | apply below_drew1) | exact HB.out)) hb); clear HB; have HO251 := n0_; have HB := n1_; clear n0_ n1_; (try clear hb); (try clear hb2); (try clear hk); (try clear hi); (try clear ho0); (try simp only [errW_none, errW_some, erT_no, erV_no, erT_at, erV_at]); obtain ⟨Ao46, co46, eo46⟩ := Kd.R_slice HO251.out; subst eo46)); try go_wp2_with (first | (go_at_call 27; (with_reducible refine (utf_Encode.calls a0 t248 (some q252) _ A10.out).mono ?_); rintro e w45 ⟨v250, rfl, ho0, hb⟩; have n0_ := Aside0.mk (Kd.R_lower ho0 (below_size (by repeat (first | (with_reducible first | exact HB.out | apply below_alloc | apply pw_below_drewN | apply below_drew1) | exact HB.out)))); have n1_ := Aside0.mk (below_step (by repeat (first | (with_reducible first | exact HB.out | apply below_alloc | apply pw_below_drewN | apply below_drew1) | exact HB.out)) hb); clear HB; have HO251 := n0_; have HB := n1_; clear n0_ n1_; (try clear hb); (try clear hb2); (try clear hk); (try clear hi); (try clear ho0); (try simp only [errW_none, errW_some, erT_no, erV_no, erT_at, erV_at]); obtain ⟨Ao46, co46, eo46⟩ := Kd.R_slice HO251.out; subst eo46)))
              go_ret
              exact ⟨by first | rfl | (simp [errW_none, errW_some, erT_no, erV_no, erT_at, erV_at] <;> rfl) | (simp only [← hji4, ← hji7]; first | rfl | (simp [errW_none, errW_some, erT_no, erV_no, erT_at, erV_at] <;> rfl)) | (simp [*, errW_none, errW_some, erT_no, erV_no, erT_at, erV_at] <;> rfl), by repeat (first | (with_reducible first | exact HB.out | apply below_alloc | apply pw_below_drewN | apply below_drew1) | exact HB.out)⟩
        · rw [if_neg c9] at H
          exact absurd H (by simp)
      · rw [if_neg c8] at H
        exact absurd H (by simp)
    · rw [if_neg c6] at H
      exact absurd H (by simp)
  · rw [if_neg c5] at H
    exact absurd H (by simp)

end Go.Proofs.YtnpgadfoohjlnaaDoor.QU
