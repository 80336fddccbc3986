/- Where a Lean function of this text answers, the Go function of its name comes to that answer: no other condition. Written by a program of this session out of the translation; Lean checks it. -/
import Derived.Test.YtnpgadfoohjlnaaQB0
import Derived.Test.YtnpgadfoohjlnaaQB1
import Derived.Test.YtnpgadfoohjlnaaQB5
import Derived.Test.YtnpgadfoohjlnaaQB6
namespace Go.Proofs.Ytnpgadfoohjlnaa.QB
open Go.RowKit Go.Proofs.YtnpgadfoohjlnaaW.PrintWords Go.Proofs.YtnpgadfoohjlnaaW.PrintLast Go.Proofs.YtnpgadfoohjlnaaW.PrintMore Go.Proofs.YtnpgadfoohjlnaaW.PrintX
attribute [local go_sem] max2_int min2_int max_two min_two max_three min_three max_four min_four   -- for this text's walks alone
set_option linter.unusedVariables false
set_option linter.unusedSimpArgs false

/-! ### cavillaw04_EditBack: function 7 -/
mutual
def cavillaw04_EditBack.j0 : Nat → List Int → List (S64) → List Int → List (S64) → Bool → Option (Bool)
  | 0, _, _, _, _, _ => none
  | k + 1, x0, x1, x5, x7, x77 => if x77 = true then (some false) else (cavillaw04_EditBack.l0 k x0 x1 x5 0 ([] : List Int) x7 (x7.length : Int) 0)
def cavillaw04_EditBack.l0 : Nat → List Int → List (S64) → List Int → Int → List Int → List (S64) → Int → Int → Option (Bool)
  | 0, _, _, _, _, _, _, _, _ => none
  | k + 1, x0, x1, x5, x9, x10, x78, x79, x80 => if x80 < x79 then (if 0 ≤ x80 then (if x80 < (x78.length : Int) then (if ((rd_T64 x78 x80).f0) < x9 then (some false) else (if ((rd_T64 x78 x80).f1) < ((rd_T64 x78 x80).f0) then (some false) else (if ((rd_T64 x78 x80).f1) > (x5.length : Int) then (some false) else (if 0 ≤ ((rd_T64 x78 x80).f0) then (if ((rd_T64 x78 x80).f0) ≤ ((rd_T64 x78 x80).f1) then (if ((rd_T64 x78 x80).f1) ≤ (x5.length : Int) then (if x80 < (x1.length : Int) then (if (strOfNums ((x5.take (((rd_T64 x78 x80).f1) : Int).toNat).drop (((rd_T64 x78 x80).f0) : Int).toNat)).toList = ((rd_T64 x1 x80).f2).toList then (if 0 ≤ x9 then (if x9 ≤ ((rd_T64 x78 x80).f0) then (if ((rd_T64 x78 x80).f0) ≤ (x5.length : Int) then ((some ((x5.take (((rd_T64 x78 x80).f0) : Int).toNat).drop (x9 : Int).toNat : List Int)).bind fun y222 => (if x10.length + y222.length < 140737488355328 then ((some (x10 ++ y222 : List Int)).bind fun y226 => (if y226.length + ((rd_T64 x78 x80).f2).size < 140737488355328 then (cavillaw04_EditBack.l0 k x0 x1 x5 ((rd_T64 x78 x80).f1) (y226 ++ bytesOf ((rd_T64 x78 x80).f2)) x78 x79 (wrap64 (x80 + 1))) else (none))) else (none))) else (none)) else (none)) else (none)) else (some false)) else (none)) else (none)) else (none)) else (none))))) else (none)) else (none)) else (if 0 ≤ x9 then (if x9 ≤ (x5.length : Int) then ((some (x5.drop (x9 : Int).toNat : List Int)).bind fun y232 => (if x10.length + y232.length < 140737488355328 then ((bytes_Equal.f (x10 ++ y232) x0).bind fun t239 => (if t239 = true then ((cavillaw04_works.f k).bind fun t240 => (some t240)) else (some false))) else (none))) else (none)) else (none))
end
def cavillaw04_EditBack.f (k : Nat) (l0 : List Int) (l1 : List (S64)) : Option (Bool) := if 0 ≤ (mn (l0.length : Int) 300) then (if (mn (l0.length : Int) 300) ≤ (l0.length : Int) then ((some (l0.take ((mn (l0.length : Int) 300) : Int).toNat : List Int)).bind fun y195 => ((cavillaw04_few.f k l1).bind fun t199 => ((edit_Apply.f k y195 t199).bind fun bt202 => ((edit_Invert.f k y195 t199).bind fun bt206 => (if bt202.2.isNone = true then (if bt206.2.isNone = true then (if (bt206.1.length : Int) = (t199.length : Int) then ((edit_Grow.f k t199).bind fun t212 => (if (bt202.1.length : Int) = (wrap64 ((y195.length : Int) + t212)) then ((edit_Grow.f k bt206.1).bind fun t213 => ((edit_Grow.f k t199).bind fun t214 => (cavillaw04_EditBack.j0 k y195 t199 bt202.1 bt206.1 (t213 != (wrap64 (-t214)))))) else (cavillaw04_EditBack.j0 k y195 t199 bt202.1 bt206.1 true))) else (cavillaw04_EditBack.j0 k y195 t199 bt202.1 bt206.1 true)) else (cavillaw04_EditBack.j0 k y195 t199 bt202.1 bt206.1 true)) else (if bt206.2.isNone = true then (some false) else (if (bt206.1.length : Int) = 0 then ((cavillaw01_Code.f k (some (bt202.2.getD (Er.no 0)))).bind fun t242 => ((cavillaw01_Code.f k (some (bt206.2.getD (Er.no 0)))).bind fun t243 => (if t242 = t243 then ((cavillaw04_works.f k).bind fun t244 => (some t244)) else (some false)))) else (some false)))))))) else (none)) else (none)
theorem cavillaw04_EditBack.mono_l : ∀ k, (∀ y0 y1 y2 y3 y4, LeO (cavillaw04_EditBack.j0 k y0 y1 y2 y3 y4) (cavillaw04_EditBack.j0 (k + 1) y0 y1 y2 y3 y4)) ∧ (∀ y0 y1 y2 y3 y4 y5 y6 y7, LeO (cavillaw04_EditBack.l0 k y0 y1 y2 y3 y4 y5 y6 y7) (cavillaw04_EditBack.l0 (k + 1) y0 y1 y2 y3 y4 y5 y6 y7))
  | 0 => ⟨fun _ _ _ _ _ r h => by simp [cavillaw04_EditBack.j0] at h, fun _ _ _ _ _ _ _ _ r h => by simp [cavillaw04_EditBack.l0] at h⟩
  | k + 1 => by
    obtain ⟨ih0, ih1⟩ := cavillaw04_EditBack.mono_l k
    refine ⟨?_, ?_⟩
    · intro y0 y1 y2 y3 y4
      unfold cavillaw04_EditBack.j0
      repeat' first
      | (with_reducible exact ih0 _ _ _ _ _)
      | (with_reducible exact ih1 _ _ _ _ _ _ _ _)
      | (with_reducible exact cavillaw01_Code.mono _ _)
      | (with_reducible exact cavillaw04_few.mono _ _)
      | (with_reducible exact cavillaw04_works.mono _)
      | (with_reducible exact edit_Apply.mono _ _ _)
      | (with_reducible exact edit_Grow.mono _ _)
      | (with_reducible exact edit_Invert.mono _ _ _)
      | (with_reducible exact LeO.refl _)
      | (with_reducible exact LeO.none _)
      | (with_reducible refine LeO.ite ?_ ?_)
      | (with_reducible refine LeO.bind ?_ (fun _ => ?_))
      | exact ih0 _ _ _ _ _
      | exact ih1 _ _ _ _ _ _ _ _
      | exact cavillaw01_Code.mono _ _
      | exact cavillaw04_few.mono _ _
      | exact cavillaw04_works.mono _
      | exact edit_Apply.mono _ _ _
      | exact edit_Grow.mono _ _
      | exact edit_Invert.mono _ _ _
      | exact LeO.none _
      | refine LeO.ite ?_ ?_
      | refine LeO.bind ?_ (fun _ => ?_)
    · intro y0 y1 y2 y3 y4 y5 y6 y7
      unfold cavillaw04_EditBack.l0
      repeat' first
      | (with_reducible exact ih0 _ _ _ _ _)
      | (with_reducible exact ih1 _ _ _ _ _ _ _ _)
      | (with_reducible exact cavillaw01_Code.mono _ _)
      | (with_reducible exact cavillaw04_few.mono _ _)
      | (with_reducible exact cavillaw04_works.mono _)
      | (with_reducible exact edit_Apply.mono _ _ _)
      | (with_reducible exact edit_Grow.mono _ _)
      | (with_reducible exact edit_Invert.mono _ _ _)
      | (with_reducible exact LeO.refl _)
      | (with_reducible exact LeO.none _)
      | (with_reducible refine LeO.ite ?_ ?_)
      | (with_reducible refine LeO.bind ?_ (fun _ => ?_))
      | exact ih0 _ _ _ _ _
      | exact ih1 _ _ _ _ _ _ _ _
      | exact cavillaw01_Code.mono _ _
      | exact cavillaw04_few.mono _ _
      | exact cavillaw04_works.mono _
      | exact edit_Apply.mono _ _ _
      | exact edit_Grow.mono _ _
      | exact edit_Invert.mono _ _ _
      | exact LeO.none _
      | refine LeO.ite ?_ ?_
      | refine LeO.bind ?_ (fun _ => ?_)
theorem cavillaw04_EditBack.mono : ∀ a0 a1 k, LeO (cavillaw04_EditBack.f k a0 a1) (cavillaw04_EditBack.f (k + 1) a0 a1) := by
  intro a0 a1 k
  obtain ⟨ih0, ih1⟩ := cavillaw04_EditBack.mono_l k
  unfold cavillaw04_EditBack.f
  repeat' first
      | (with_reducible exact ih0 _ _ _ _ _)
      | (with_reducible exact ih1 _ _ _ _ _ _ _ _)
      | (with_reducible exact cavillaw01_Code.mono _ _)
      | (with_reducible exact cavillaw04_few.mono _ _)
      | (with_reducible exact cavillaw04_works.mono _)
      | (with_reducible exact edit_Apply.mono _ _ _)
      | (with_reducible exact edit_Grow.mono _ _)
      | (with_reducible exact edit_Invert.mono _ _ _)
      | (with_reducible exact LeO.refl _)
      | (with_reducible exact LeO.none _)
      | (with_reducible refine LeO.ite ?_ ?_)
      | (with_reducible refine LeO.bind ?_ (fun _ => ?_))
      | exact ih0 _ _ _ _ _
      | exact ih1 _ _ _ _ _ _ _ _
      | exact cavillaw01_Code.mono _ _
      | exact cavillaw04_few.mono _ _
      | exact cavillaw04_works.mono _
      | exact edit_Apply.mono _ _ _
      | exact edit_Grow.mono _ _
      | exact edit_Invert.mono _ _ _
      | exact LeO.none _
      | refine LeO.ite ?_ ?_
      | refine LeO.bind ?_ (fun _ => ?_)
def cavillaw04_EditBack.T1 : Bool × List (List Nat × List Nat) := (true, [([], []), ([], []), ([1], [1]), ([2], [2]), ([0, 3], [0, 3]), ([], []), ([5], [5]), ([4, 6, 0, 1, 2, 3, 4], [0, 1, 4]), ([6, 7, 0, 1, 2, 3, 4, 5, 6, 7], [5, 6])])
def cavillaw04_EditBack.B1 : List Nat := [0, 0, 2, 6, 15, 0, 32, 127, 255]
theorem cavillaw04_EditBack.tab1 : rtab .any (opsOf Try.f7 1) = cavillaw04_EditBack.T1 := by kernel_rfl
theorem cavillaw04_EditBack.bits1 : waitsOk cavillaw04_EditBack.T1.2 cavillaw04_EditBack.B1 = true := by kernel_rfl
def cavillaw04_EditBack.T13 : Bool × List (List Nat × List Nat) := (true, [([], []), ([0], [0]), ([], []), ([1, 2], [1, 2]), ([3], [3]), ([4], [4]), ([5, 4], [4, 5]), ([4], [4]), ([7, 4], [4, 7]), ([6, 8, 4], [4, 6, 8]), ([4, 9], [4, 9]), ([10, 4], [10]), ([11], [11]), ([12, 11], [11, 12]), ([11], [11]), ([14, 11], [11, 14]), ([13, 15, 11], [11, 13, 15]), ([11, 16], [11, 16]), ([17, 11], [17]), ([18], [18]), ([18], [18]), ([20, 18], [18, 20]), ([18], [18]), ([22, 18], [18, 22]), ([19, 21, 23, 18], [18, 19, 21, 23]), ([24, 18], [18, 24]), ([18], [18]), ([18], [18]), ([26, 27, 18], [18, 26, 27]), ([28, 18], [18, 28]), ([29, 18], [18, 29]), ([25, 30, 18], [18, 25, 30]), ([18, 31], [18, 31])])
def cavillaw04_EditBack.B13 : List Nat := [0, 1, 0, 7, 15, 31, 63, 31, 159, 511, 1023, 2047, 4095, 8191, 4095, 20479, 65535, 131071, 262143, 524287, 524287, 1572863, 524287, 4718591, 16777215, 33554431, 524287, 524287, 201850879, 470286335, 1007157247, 2147483647, 4294967295]
theorem cavillaw04_EditBack.tab13 : rtab .any (opsOf Try.f7 13) = cavillaw04_EditBack.T13 := by kernel_rfl
theorem cavillaw04_EditBack.bits13 : waitsOk cavillaw04_EditBack.T13.2 cavillaw04_EditBack.B13 = true := by kernel_rfl
def cavillaw04_EditBack.T15 : Bool × List (List Nat × List Nat) := (true, [([], []), ([], []), ([], []), ([], []), ([3], [3]), ([1, 2, 4], [1, 2, 4]), ([0, 5], [0, 5]), ([], []), ([7], [7]), ([6, 8, 6], [6, 8]), ([9, 9, 0, 1, 2, 3, 4, 5, 6, 7, 8, 9], [0, 9])])
def cavillaw04_EditBack.B15 : List Nat := [0, 0, 0, 0, 8, 30, 63, 0, 128, 511, 1023]
theorem cavillaw04_EditBack.tab15 : rtab .any (opsOf Try.f7 15) = cavillaw04_EditBack.T15 := by kernel_rfl
theorem cavillaw04_EditBack.bits15 : waitsOk cavillaw04_EditBack.T15.2 cavillaw04_EditBack.B15 = true := by kernel_rfl
set_option maxHeartbeats 8000000 in
set_option maxRecDepth 100000 in
theorem cavillaw04_EditBack.calls (k : Nat) (A0 : Option Addr) (c0 : Nat) (l0 : List Int) (A1 : Option Addr) (c1 : Nat) (l1 : List (S64)) (r : Bool) (w : World) (hr0 : Kd.C (Kd.int .u8) w A0 l0.length l0) (hc0 : l0.length ≤ c0) (hr1 : Kd.C k64 w A1 l1.length l1) (hc1 : l1.length ≤ c1) (h : cavillaw04_EditBack.f k l0 l1 = some r) :
    Calls Try.prog 7 #[.slice A0 l0.length c0, .slice A1 l1.length c1] w fun e w' => e = .returned (.bool r) ∧ Below w.heap.size w w' := by
  have hu64 := Try.underlying64
  have hu32 := Try.underlying32
  have hu36 := Try.underlying36
  have HR0 := Aside0.mk hr0
  have HC0 := Aside0.mk hc0
  clear hr0 hc0
  have HR1 := Aside0.mk hr1
  have HC1 := Aside0.mk hc1
  clear hr1 hc1
  have HB := Aside0.mk (Below.refl w.heap.size w)
  have H : (if 0 ≤ (mn (l0.length : Int) 300) then (if (mn (l0.length : Int) 300) ≤ (l0.length : Int) then ((some (l0.take ((mn (l0.length : Int) 300) : Int).toNat : List Int)).bind fun y195 => ((cavillaw04_few.f k l1).bind fun t199 => ((edit_Apply.f k y195 t199).bind fun bt202 => ((edit_Invert.f k y195 t199).bind fun bt206 => (if bt202.2.isNone = true then (if bt206.2.isNone = true then (if (bt206.1.length : Int) = (t199.length : Int) then ((edit_Grow.f k t199).bind fun t212 => (if (bt202.1.length : Int) = (wrap64 ((y195.length : Int) + t212)) then ((edit_Grow.f k bt206.1).bind fun t213 => ((edit_Grow.f k t199).bind fun t214 => (cavillaw04_EditBack.j0 k y195 t199 bt202.1 bt206.1 (t213 != (wrap64 (-t214)))))) else (cavillaw04_EditBack.j0 k y195 t199 bt202.1 bt206.1 true))) else (cavillaw04_EditBack.j0 k y195 t199 bt202.1 bt206.1 true)) else (cavillaw04_EditBack.j0 k y195 t199 bt202.1 bt206.1 true)) else (if bt206.2.isNone = true then (some false) else (if (bt206.1.length : Int) = 0 then ((cavillaw01_Code.f k (some (bt202.2.getD (Er.no 0)))).bind fun t242 => ((cavillaw01_Code.f k (some (bt206.2.getD (Er.no 0)))).bind fun t243 => (if t242 = t243 then ((cavillaw04_works.f k).bind fun t244 => (some t244)) else (some false)))) else (some false)))))))) else (none)) else (none)) = some r := h
  clear h
  obtain ⟨ji3, hji3⟩ : ∃ j_ : Int, (mn (l0.length : Int) 300) = j_ := ⟨_, rfl⟩
  replace H : (if 0 ≤ (ji3) then (if (ji3) ≤ (l0.length : Int) then ((some (l0.take ((ji3) : Int).toNat : List Int)).bind fun y195 => ((cavillaw04_few.f k l1).bind fun t199 => ((edit_Apply.f k y195 t199).bind fun bt202 => ((edit_Invert.f k y195 t199).bind fun bt206 => (if bt202.2.isNone = true then (if bt206.2.isNone = true then (if (bt206.1.length : Int) = (t199.length : Int) then ((edit_Grow.f k t199).bind fun t212 => (if (bt202.1.length : Int) = (wrap64 ((y195.length : Int) + t212)) then ((edit_Grow.f k bt206.1).bind fun t213 => ((edit_Grow.f k t199).bind fun t214 => (cavillaw04_EditBack.j0 k y195 t199 bt202.1 bt206.1 (t213 != (wrap64 (-t214)))))) else (cavillaw04_EditBack.j0 k y195 t199 bt202.1 bt206.1 true))) else (cavillaw04_EditBack.j0 k y195 t199 bt202.1 bt206.1 true)) else (cavillaw04_EditBack.j0 k y195 t199 bt202.1 bt206.1 true)) else (if bt206.2.isNone = true then (some false) else (if (bt206.1.length : Int) = 0 then ((cavillaw01_Code.f k (some (bt202.2.getD (Er.no 0)))).bind fun t242 => ((cavillaw01_Code.f k (some (bt206.2.getD (Er.no 0)))).bind fun t243 => (if t242 = t243 then ((cavillaw04_works.f k).bind fun t244 => (some t244)) else (some false)))) else (some false)))))))) else (none)) else (none)) = some r := by first | (rw [hji3] at H; exact H) | (simp only [hji3] at H ⊢; exact H)
  (try (have hji3h : ji3 ≤ 300 := by (rw [← hji3]; unfold mn; (repeat' split) <;> omega)))
  (try (have hji3g : ji3 ≤ 64 := by omega))
  (try (have hji3l : 0 ≤ ji3 := by (rw [← hji3]; unfold mn; (repeat' split) <;> omega)))
  (try (have hji3m : 0 ≤ ji3 := by omega))
  have hji3_ : (if 300 < (l0.length : Int) then 300 else (l0.length : Int)) = ji3 := hji3
  by_cases c4 : 0 ≤ (ji3)
  · rw [if_pos c4] at H
    have c4b0 := eq_true c4
    have c4b1 : decide (0 ≤ (ji3)) = true := decide_eq_true c4
    clear c4
    by_cases c5 : (ji3) ≤ (l0.length : Int)
    · rw [if_pos c5] at H
      have c5b0 := eq_true c5
      have c5b1 : decide ((ji3) ≤ (l0.length : Int)) = true := decide_eq_true c5
      clear c5
      obtain ⟨y195, hy195⟩ : ∃ y_ : List Int, y_ = (l0.take ((ji3) : Int).toNat) := ⟨_, rfl⟩
      replace H : ((cavillaw04_few.f k l1).bind fun t199 => ((edit_Apply.f k y195 t199).bind fun bt202 => ((edit_Invert.f k y195 t199).bind fun bt206 => (if bt202.2.isNone = true then (if bt206.2.isNone = true then (if (bt206.1.length : Int) = (t199.length : Int) then ((edit_Grow.f k t199).bind fun t212 => (if (bt202.1.length : Int) = (wrap64 ((y195.length : Int) + t212)) then ((edit_Grow.f k bt206.1).bind fun t213 => ((edit_Grow.f k t199).bind fun t214 => (cavillaw04_EditBack.j0 k y195 t199 bt202.1 bt206.1 (t213 != (wrap64 (-t214)))))) else (cavillaw04_EditBack.j0 k y195 t199 bt202.1 bt206.1 true))) else (cavillaw04_EditBack.j0 k y195 t199 bt202.1 bt206.1 true)) else (cavillaw04_EditBack.j0 k y195 t199 bt202.1 bt206.1 true)) else (if bt206.2.isNone = true then (some false) else (if (bt206.1.length : Int) = 0 then ((cavillaw01_Code.f k (some (bt202.2.getD (Er.no 0)))).bind fun t242 => ((cavillaw01_Code.f k (some (bt206.2.getD (Er.no 0)))).bind fun t243 => (if t242 = t243 then ((cavillaw04_works.f k).bind fun t244 => (some t244)) else (some false)))) else (some false))))))) = some r := by first | (rw [hy195]; with_reducible exact H) | (have H2_ := (Option.bind_some _ _).symm.trans H; rw [hy195]; with_reducible exact H2_) | (have H2_ := (Option.bind_some _ _).symm.trans H; with_reducible exact H2_) | with_reducible exact H | (rw [hy195]; exact H) | exact H
      have Ny195 := Aside0.mk hy195
      clear hy195
      replace H := Option.bind_eq_some_iff.mp H
      obtain ⟨t199, A60, H⟩ := H
      replace H : ((edit_Apply.f k y195 t199).bind fun bt202 => ((edit_Invert.f k y195 t199).bind fun bt206 => (if bt202.2.isNone = true then (if bt206.2.isNone = true then (if (bt206.1.length : Int) = (t199.length : Int) then ((edit_Grow.f k t199).bind fun t212 => (if (bt202.1.length : Int) = (wrap64 ((y195.length : Int) + t212)) then ((edit_Grow.f k bt206.1).bind fun t213 => ((edit_Grow.f k t199).bind fun t214 => (cavillaw04_EditBack.j0 k y195 t199 bt202.1 bt206.1 (t213 != (wrap64 (-t214)))))) else (cavillaw04_EditBack.j0 k y195 t199 bt202.1 bt206.1 true))) else (cavillaw04_EditBack.j0 k y195 t199 bt202.1 bt206.1 true)) else (cavillaw04_EditBack.j0 k y195 t199 bt202.1 bt206.1 true)) else (if bt206.2.isNone = true then (some false) else (if (bt206.1.length : Int) = 0 then ((cavillaw01_Code.f k (some (bt202.2.getD (Er.no 0)))).bind fun t242 => ((cavillaw01_Code.f k (some (bt206.2.getD (Er.no 0)))).bind fun t243 => (if t242 = t243 then ((cavillaw04_works.f k).bind fun t244 => (some t244)) else (some false)))) else (some false)))))) = some r := H
      have A6 := Aside0.mk A60
      clear A60
      replace H := Option.bind_eq_some_iff.mp H
      obtain ⟨⟨t202, t203⟩, A70, H⟩ := H
      replace H : ((edit_Invert.f k y195 t199).bind fun bt206 => (if t203.isNone = true then (if bt206.2.isNone = true then (if (bt206.1.length : Int) = (t199.length : Int) then ((edit_Grow.f k t199).bind fun t212 => (if (t202.length : Int) = (wrap64 ((y195.length : Int) + t212)) then ((edit_Grow.f k bt206.1).bind fun t213 => ((edit_Grow.f k t199).bind fun t214 => (cavillaw04_EditBack.j0 k y195 t199 t202 bt206.1 (t213 != (wrap64 (-t214)))))) else (cavillaw04_EditBack.j0 k y195 t199 t202 bt206.1 true))) else (cavillaw04_EditBack.j0 k y195 t199 t202 bt206.1 true)) else (cavillaw04_EditBack.j0 k y195 t199 t202 bt206.1 true)) else (if bt206.2.isNone = true then (some false) else (if (bt206.1.length : Int) = 0 then ((cavillaw01_Code.f k (some (t203.getD (Er.no 0)))).bind fun t242 => ((cavillaw01_Code.f k (some (bt206.2.getD (Er.no 0)))).bind fun t243 => (if t242 = t243 then ((cavillaw04_works.f k).bind fun t244 => (some t244)) else (some false)))) else (some false))))) = some r := H
      have A7 := Aside0.mk A70
      clear A70
      replace H := Option.bind_eq_some_iff.mp H
      obtain ⟨⟨t206, t207⟩, A80, H⟩ := H
      replace H : (if t203.isNone = true then (if t207.isNone = true then (if (t206.length : Int) = (t199.length : Int) then ((edit_Grow.f k t199).bind fun t212 => (if (t202.length : Int) = (wrap64 ((y195.length : Int) + t212)) then ((edit_Grow.f k t206).bind fun t213 => ((edit_Grow.f k t199).bind fun t214 => (cavillaw04_EditBack.j0 k y195 t199 t202 t206 (t213 != (wrap64 (-t214)))))) else (cavillaw04_EditBack.j0 k y195 t199 t202 t206 true))) else (cavillaw04_EditBack.j0 k y195 t199 t202 t206 true)) else (cavillaw04_EditBack.j0 k y195 t199 t202 t206 true)) else (if t207.isNone = true then (some false) else (if (t206.length : Int) = 0 then ((cavillaw01_Code.f k (some (t203.getD (Er.no 0)))).bind fun t242 => ((cavillaw01_Code.f k (some (t207.getD (Er.no 0)))).bind fun t243 => (if t242 = t243 then ((cavillaw04_works.f k).bind fun t244 => (some t244)) else (some false)))) else (some false)))) = some r := H
      have A8 := Aside0.mk A80
      clear A80
      rcases t203 with _ | q210
      · have H1 : (if t207.isNone = true then (if (t206.length : Int) = (t199.length : Int) then ((edit_Grow.f k t199).bind fun t212 => (if (t202.length : Int) = (wrap64 ((y195.length : Int) + t212)) then ((edit_Grow.f k t206).bind fun t213 => ((edit_Grow.f k t199).bind fun t214 => (cavillaw04_EditBack.j0 k y195 t199 t202 t206 (t213 != (wrap64 (-t214)))))) else (cavillaw04_EditBack.j0 k y195 t199 t202 t206 true))) else (cavillaw04_EditBack.j0 k y195 t199 t202 t206 true)) else (cavillaw04_EditBack.j0 k y195 t199 t202 t206 true)) = some r := by rw [if_pos (show (none : Option Er).isNone = true by rfl)] at H; exact H
        clear H
        have H := H1
        clear H1
        try simp only [errW_none, errW_some, erT_no, erV_no, erT_at, erV_at]
        have HC9 := Aside0.mk H
        clear H
        go_enter Try.func7, Try.ntmps7
        try go_wp2
        have n0_ := Aside0.mk (below_drew1 HB.out)
        clear HB
        have HB := n0_
        clear n0_
        have q11 : ((ji3) : Int) ≤ ((l0.length : Int) : Int) := of_decide_eq_true (by first | (with_reducible assumption) | assumption)
        obtain ⟨i011, hi011, _, hsz11, _⟩ := info_parts info5
        have hroom11 : l0.length ≤ c0 := HC0.out
        have hC11 : Kd.C (Kd.int .u8) _ A0 l0.length l0 := HR0.out
        have hcut11 := cut_to (P := Try.prog) 22 5 .i64 Try.underlying22 hi011 A0 l0.length c0 (ji3) (of_decide_eq_true (by first | (with_reducible assumption) | assumption)) q11 hroom11
        have hr11 := Kd.C_take (m := ((ji3) : Int).toNat) hC11 (by omega)
        have hy11 : y195.length = ((ji3) : Int).toNat := (by rw [Ny195.out, List.length_take]; omega)
        rw [← Ny195.out] at hr11
        rw [← hy11] at hcut11
        have HR198 := Aside0.mk hr11
        have HC198 := Aside0.mk (show y195.length ≤ c0 from by omega)
        clear hr11 hC11 hroom11 hi011 hsz11
        have KY11 := Aside0.mk hy11
        clear hy11
        replace q11 := eq_true q11
        refine start_ (n := 9) (S := fun w' => True) (ds := []) #[false, false, false, false, false, false, false, false, false] (by kernel_rfl) rfl rfl trivial (fun hHeld => ?_); refine with_tabW cavillaw04_EditBack.tab1 cavillaw04_EditBack.bits1 (fun HT_ HW_ => ?_)
        generalize w.drew = w10 at HB HR198 hHeld ⊢
        refine pure_ (i := 0) (N := some 13) (v := ?_) (a' := ?_) #[true, false, false, false, false, false, false, false, false] rfl rfl (any_of HT_.out (by kernel_rfl)) (fun _ _ _ h => h) (Or.inl ⟨by rfl, ?_⟩) ?_ ?_; rotate_left; { intro w'; go_simp; with_reducible rfl }; rotate_left; { simp only [Act.put, List.setIfInBounds_toArray, List.set_cons_zero, List.set_cons_succ, i64_w, i32_w]; rfl }
        refine pure_ (i := 1) (N := some 14) (v := ?_) (a' := ?_) #[true, true, false, false, false, false, false, false, false] rfl rfl (any_of HT_.out (by kernel_rfl)) (fun _ _ _ h => h) (Or.inl ⟨by rfl, ?_⟩) ?_ ?_; rotate_left; { intro w'; go_simp; with_reducible rfl }; rotate_left; { simp only [Act.put, List.setIfInBounds_toArray, List.set_cons_zero, List.set_cons_succ, i64_w, i32_w]; rfl }
        refine pure_ (i := 2) (N := some 15) (v := ?_) (a' := ?_) #[true, true, true, false, false, false, false, false, false] rfl rfl (any_of HT_.out (by kernel_rfl)) (fun _ _ _ h => h) (Or.inl ⟨by rfl, ?_⟩) ?_ ?_; rotate_left; { intro w'; go_simp; with_reducible rfl }; rotate_left; { simp only [Act.put, List.setIfInBounds_toArray, List.set_cons_zero, List.set_cons_succ, i64_w, i32_w]; rfl }
        refine pure_ (i := 3) (N := some 16) (v := ?_) (a' := ?_) #[true, true, true, true, false, false, false, false, false] rfl rfl (any_of HT_.out (by kernel_rfl)) (fun _ _ _ h => h) (Or.inl ⟨by rfl, ?_⟩) ?_ ?_; rotate_left; { intro w'; go_simp; with_reducible rfl }; rotate_left; { simp only [Act.put, List.setIfInBounds_toArray, List.set_cons_zero, List.set_cons_succ, i64_w, i32_w]; rfl }
        refine pure_ (i := 4) (N := some 17) (v := ?_) (a' := ?_) #[true, true, true, true, true, false, false, false, false] rfl rfl (any_of HT_.out (by kernel_rfl)) (fun _ _ _ h => h) (Or.inl ⟨by rfl, ?_⟩) ?_ ?_; rotate_left; { intro w'; go_simp; with_reducible rfl }; rotate_left; { simp only [Act.put, List.setIfInBounds_toArray, List.set_cons_zero, List.set_cons_succ, i64_w, i32_w]; rfl }
        refine pure_ (i := 5) (N := some 18) (v := ?_) (a' := ?_) #[true, true, true, true, true, true, false, false, false] rfl rfl (any_of HT_.out (by kernel_rfl)) (fun _ _ _ h => h) (Or.inl ⟨by rfl, ?_⟩) ?_ ?_; rotate_left; { intro w'; go_simp; with_reducible rfl }; rotate_left; { simp only [Act.put, List.setIfInBounds_toArray, List.set_cons_zero, List.set_cons_succ, i64_w, i32_w]; rfl }
        refine one_ (i := 6) (N := some 19) #[true, true, true, true, true, true, true, false, false] rfl rfl (one_of HT_.out (by kernel_rfl)) (by decide) (fun K hK => ?_)
        refine goes_ Try.func22 (by kernel_rfl) rfl #[.slice A1 l1.length c1] (by rfl) rfl rfl (by (try simp only [List.map_toArray, List.map_cons, List.map_nil]); first | done | rfl | (simp only [List.length_drop, List.length_take]; rfl)) ?_
        with_reducible refine (cavillaw04_few.calls k _ _ l1 t199 _ ?side1 ?side2 A6.out).mono ?_
        (case side1 => repeat (first | exact (Kd.C_below HR1.out HB.out) | (with_reducible refine Kd.C_alloc ?_ _) | (with_reducible refine Kd.C_drewN ?_ _) | (with_reducible refine Kd.C_drew ?_)))
        (case side2 => exact HC1.out)
        rintro e w12 ⟨v200, rfl, ho0, hb⟩
        refine ⟨_, rfl, ?_⟩
        have n0_ := Aside0.mk (Kd.R_lower ho0 (below_size (by repeat (first | (with_reducible first | exact HB.out | apply below_alloc | apply pw_below_drewN | apply below_drew1) | exact HB.out))))
        have n1_ := Aside0.mk (below_step (by repeat (first | (with_reducible first | exact HB.out | apply below_alloc | apply pw_below_drewN | apply below_drew1) | exact HB.out)) hb)
        clear HB
        have HO201 := n0_
        have HB := n1_
        clear n0_ n1_
        (try clear hb)
        (try clear hb2)
        (try clear hk)
        (try clear hi)
        (try clear ho0)
        refine hK.out _ _ trivial (fun hHeld => ?_)
        clear hK K
        refine norm_ (a' := ?_) ?_ ?_; rotate_left; { show Act.put _ (some 19) _ = _; simp only [Act.put, List.setIfInBounds_toArray, List.set_cons_zero, List.set_cons_succ, i64_w, i32_w]; rfl }
        refine pure_ (i := 7) (N := some 0) (v := ?_) (a' := ?_) #[true, true, true, true, true, true, true, true, false] rfl rfl (any_of HT_.out (by kernel_rfl)) (fun _ _ _ h => h) (Or.inl ⟨by rfl, ?_⟩) ?_ ?_; rotate_left; { intro w'; go_simp; with_reducible rfl }; rotate_left; { simp only [Act.put, List.setIfInBounds_toArray, List.set_cons_zero, List.set_cons_succ, i64_w, i32_w]; rfl }
        refine pure_ (i := 8) (N := some 1) (v := ?_) (a' := ?_) #[true, true, true, true, true, true, true, true, true] rfl rfl (any_of HT_.out (by kernel_rfl)) (fun _ _ _ h => h) (Or.inl ⟨by rfl, ?_⟩) ?_ ?_; rotate_left; { intro w'; go_simp; with_reducible rfl }; rotate_left; { simp only [Act.put, List.setIfInBounds_toArray, List.set_cons_zero, List.set_cons_succ, i64_w, i32_w]; rfl }
        refine done_ (done_of HT_.out (by kernel_rfl)) ?_
        obtain ⟨Ao13, co13, eo13⟩ := Kd.R_slice HO201.out
        subst eo13
        go_upto_region 6 with (first | ((with_reducible refine gate_callee (f := 30) rfl ?_); refine goesL_ (some 23) rfl rfl Try.func30 (by kernel_rfl) rfl #[.slice A0 y195.length c0, .slice Ao13 t199.length co13] rfl (by (try simp only [List.map_toArray, List.map_cons, List.map_nil]); first | done | rfl | (simp only [List.length_drop, List.length_take]; rfl)) ?_; (with_reducible refine (edit_Apply.calls k _ _ y195 _ _ t199 t202 none _ ?side1 ?side2 ?side3 ?side4 A7.out).mono ?_); (case side1 => repeat (first | exact (Kd.C_below HR198.out HB.out) | (with_reducible refine Kd.C_alloc ?_ _) | (with_reducible refine Kd.C_drewN ?_ _) | (with_reducible refine Kd.C_drew ?_))); (case side2 => exact HC198.out); (case side3 => repeat (first | exact (Kd.R_reads' HO201.out).2.2 | (with_reducible refine Kd.C_alloc ?_ _) | (with_reducible refine Kd.C_drewN ?_ _) | (with_reducible refine Kd.C_drew ?_))); (case side4 => exact (Kd.R_reads' HO201.out).2.1); rintro e w14 ⟨v204, rfl, ho0, hb⟩; refine ⟨_, rfl, ?_⟩; have n0_ := Aside0.mk (Kd.R_below (by (with_reducible repeat (first | apply Kd.R_alloc | apply Kd.R_drewN | apply Kd.R_drew)); exact HO201.out) hb); have n1_ := Aside0.mk (Kd.R_lower ho0 (below_size (by repeat (first | (with_reducible first | exact HB.out | apply below_alloc | apply pw_below_drewN | apply below_drew1) | exact HB.out)))); have n2_ := Aside0.mk (below_step (by repeat (first | (with_reducible first | exact HB.out | apply below_alloc | apply pw_below_drewN | apply below_drew1) | exact HB.out)) hb); clear HO201; clear HB; have HO201 := n0_; have HO205 := n1_; have HB := n2_; clear n0_ n1_ n2_; (try clear hb); (try clear hb2); (try clear hk); (try clear hi); (try clear ho0); (try simp only [errW_none, errW_some, erT_no, erV_no, erT_at, erV_at])) | ((with_reducible refine gate_callee (f := 31) rfl ?_); refine goesL_ (some 29) rfl rfl Try.func31 (by kernel_rfl) rfl #[.slice A0 y195.length c0, .slice Ao13 t199.length co13] rfl (by (try simp only [List.map_toArray, List.map_cons, List.map_nil]); first | done | rfl | (simp only [List.length_drop, List.length_take]; rfl)) ?_; (with_reducible refine (edit_Invert.calls k _ _ y195 _ _ t199 t206 t207 _ ?side1 ?side2 ?side3 ?side4 A8.out).mono ?_); (case side1 => repeat (first | exact (Kd.C_below HR198.out HB.out) | (with_reducible refine Kd.C_alloc ?_ _) | (with_reducible refine Kd.C_drewN ?_ _) | (with_reducible refine Kd.C_drew ?_))); (case side2 => exact HC198.out); (case side3 => repeat (first | exact (Kd.R_reads' HO201.out).2.2 | (with_reducible refine Kd.C_alloc ?_ _) | (with_reducible refine Kd.C_drewN ?_ _) | (with_reducible refine Kd.C_drew ?_))); (case side4 => exact (Kd.R_reads' HO201.out).2.1); rintro e w15 ⟨v208, rfl, ho0, hb⟩; refine ⟨_, rfl, ?_⟩; have n0_ := Aside0.mk (Kd.R_elder' (by (with_reducible repeat (first | apply Kd.R_alloc | apply Kd.R_drewN | apply Kd.R_drew)); exact HO201.out) (Kd.R_base ho0) hb); have n1_ := Aside0.mk (Kd.R_below (by (with_reducible repeat (first | apply Kd.R_alloc | apply Kd.R_drewN | apply Kd.R_drew)); exact HO205.out) hb); have n2_ := Aside0.mk (Kd.R_lower (Kd.R_new' ho0 (Kd.R_lt (by (with_reducible repeat (first | apply Kd.R_alloc | apply Kd.R_drewN | apply Kd.R_drew)); exact HO201.out))) (below_size (by repeat (first | (with_reducible first | exact HB.out | apply below_alloc | apply pw_below_drewN | apply below_drew1) | exact HB.out)))); have n3_ := Aside0.mk (below_step (by repeat (first | (with_reducible first | exact HB.out | apply below_alloc | apply pw_below_drewN | apply below_drew1) | exact HB.out)) hb); clear HO201; clear HO205; clear HB; have HO201 := n0_; have HO205 := n1_; have HO209 := n2_; have HB := n3_; clear n0_ n1_ n2_ n3_; (try clear hb); (try clear hb2); (try clear hk); (try clear hi); (try clear ho0); (try simp only [errW_none, errW_some, erT_no, erV_no, erT_at, erV_at])))
        (try simp only [Act.put, List.setIfInBounds_toArray, List.set_cons_zero, List.set_cons_succ])
        go_cut [77] (fun v77 wc => ∃ (kq : Nat) (x77_8 : Bool), v77 = .bool x77_8 ∧ Aside0 (cavillaw04_EditBack.j0 kq y195 t199 t202 t206 x77_8 = some r) ∧ Aside0 (kq ≤ k) ∧ Aside0 (Kd.R k64 64 wc w.heap.size (fun k_ => some k_ ≠ (v208 : Value).ownBlock) (.slice Ao13 t199.length co13) t199) ∧ Aside0 (Kd.R (Kd.int .u8) 5 wc w.heap.size (fun _ => True) v204 t202) ∧ Aside0 (Kd.R k64 64 wc w.heap.size (fun k_ => some k_ ≠ ((.slice Ao13 t199.length co13) : Value).ownBlock) v208 t206) ∧ Aside0 (Below w.heap.size w wc))
        case first =>
          have H := HC9.out
          clear HC9
          rcases t207 with _ | q211
          · have H1 : (if (t206.length : Int) = (t199.length : Int) then ((edit_Grow.f k t199).bind fun t212 => (if (t202.length : Int) = (wrap64 ((y195.length : Int) + t212)) then ((edit_Grow.f k t206).bind fun t213 => ((edit_Grow.f k t199).bind fun t214 => (cavillaw04_EditBack.j0 k y195 t199 t202 t206 (t213 != (wrap64 (-t214)))))) else (cavillaw04_EditBack.j0 k y195 t199 t202 t206 true))) else (cavillaw04_EditBack.j0 k y195 t199 t202 t206 true)) = some r := by rw [if_pos (show (none : Option Er).isNone = true by rfl)] at H; exact H
            clear H
            have H := H1
            clear H1
            try simp only [errW_none, errW_some, erT_no, erV_no, erT_at, erV_at]
            by_cases c16 : (t206.length : Int) = (t199.length : Int)
            · rw [if_pos c16] at H
              have c16b0 : ((t206.length : Int) == (t199.length : Int)) = true := beq_iff_eq.mpr c16
              have c16b1 : ((t206.length : Int) != (t199.length : Int)) = false := bne_eq_false_iff_eq.mpr c16
              have c16b2 : (t206.length == t199.length) = true := by first | simpa using c16 | (simp at c16 ⊢; omega)
              clear c16
              (first | rw [c16b0] | (simp only [i64_w, i32_w]; rw [c16b0]) | skip)
              replace H := Option.bind_eq_some_iff.mp H
              obtain ⟨t212, A170, H⟩ := H
              replace H : (if (t202.length : Int) = (wrap64 ((y195.length : Int) + t212)) then ((edit_Grow.f k t206).bind fun t213 => ((edit_Grow.f k t199).bind fun t214 => (cavillaw04_EditBack.j0 k y195 t199 t202 t206 (t213 != (wrap64 (-t214)))))) else (cavillaw04_EditBack.j0 k y195 t199 t202 t206 true)) = some r := H
              have A17 := Aside0.mk A170
              clear A170
              by_cases c18 : (t202.length : Int) = (wrap64 ((y195.length : Int) + t212))
              · rw [if_pos c18] at H
                have c18b0 : ((t202.length : Int) == (wrap64 ((y195.length : Int) + t212))) = true := beq_iff_eq.mpr c18
                have c18b1 : ((t202.length : Int) != (wrap64 ((y195.length : Int) + t212))) = false := bne_eq_false_iff_eq.mpr c18
                (try (have c18b2 : ((t202.length : Int) == (IntKind.i64.wrap ((y195.length : Int) + t212))) = true := by simp only [i64_w]; exact beq_iff_eq.mpr c18))
                (try (have c18b3 : ((t202.length : Int) != (IntKind.i64.wrap ((y195.length : Int) + t212))) = false := by simp only [i64_w]; exact bne_eq_false_iff_eq.mpr c18))
                clear c18
                replace H := Option.bind_eq_some_iff.mp H
                obtain ⟨t213, A190, H⟩ := H
                replace H : ((edit_Grow.f k t199).bind fun t214 => (cavillaw04_EditBack.j0 k y195 t199 t202 t206 (t213 != (wrap64 (-t214))))) = some r := H
                have A19 := Aside0.mk A190
                clear A190
                replace H := Option.bind_eq_some_iff.mp H
                obtain ⟨t214, A200, H⟩ := H
                replace H : (cavillaw04_EditBack.j0 k y195 t199 t202 t206 (t213 != (wrap64 (-t214)))) = some r := H
                have A20 := Aside0.mk A200
                clear A200
                have H' := Aside0.mk H
                clear H
                obtain ⟨Ao21, co21, eo21⟩ := Kd.R_slice HO209.out
                subst eo21
                obtain ⟨Ao22, co22, eo22⟩ := Kd.R_slice HO205.out
                subst eo22
                go_wp2_with (first | (go_at_call 27; (with_reducible refine (edit_Grow.calls k _ _ t199 t212 _ ?side1 ?side2 A17.out).mono ?_); (case side1 => repeat (first | exact (Kd.R_reads' HO201.out).2.2 | (with_reducible refine Kd.C_alloc ?_ _) | (with_reducible refine Kd.C_drewN ?_ _) | (with_reducible refine Kd.C_drew ?_))); (case side2 => exact (Kd.R_reads' HO201.out).2.1); rintro e w23 ⟨rfl, hb⟩; have n0_ := Aside0.mk (Kd.R_below (by (with_reducible repeat (first | apply Kd.R_alloc | apply Kd.R_drewN | apply Kd.R_drew)); exact HO201.out) hb); have n1_ := Aside0.mk (Kd.R_below (by (with_reducible repeat (first | apply Kd.R_alloc | apply Kd.R_drewN | apply Kd.R_drew)); exact HO205.out) hb); have n2_ := Aside0.mk (Kd.R_below (by (with_reducible repeat (first | apply Kd.R_alloc | apply Kd.R_drewN | apply Kd.R_drew)); exact HO209.out) hb); have n3_ := Aside0.mk (below_step (by repeat (first | (with_reducible first | exact HB.out | apply below_alloc | apply pw_below_drewN | apply below_drew1) | exact HB.out)) hb); clear HO201; clear HO205; clear HO209; clear HB; have HO201 := n0_; have HO205 := n1_; have HO209 := n2_; have HB := n3_; clear n0_ n1_ n2_ n3_; (try clear hb); (try clear hb2); (try clear hk); (try clear hi)) | (go_at_call 27; (with_reducible refine (edit_Grow.calls k _ _ t206 t213 _ ?side1 ?side2 A19.out).mono ?_); (case side1 => repeat (first | exact (Kd.R_reads' HO209.out).2.2 | (with_reducible refine Kd.C_alloc ?_ _) | (with_reducible refine Kd.C_drewN ?_ _) | (with_reducible refine Kd.C_drew ?_))); (case side2 => exact (Kd.R_reads' HO209.out).2.1); rintro e w24 ⟨rfl, hb⟩; have n0_ := Aside0.mk (Kd.R_below (by (with_reducible repeat (first | apply Kd.R_alloc | apply Kd.R_drewN | apply Kd.R_drew)); exact HO201.out) hb); have n1_ := Aside0.mk (Kd.R_below (by (with_reducible repeat (first | apply Kd.R_alloc | apply Kd.R_drewN | apply Kd.R_drew)); exact HO205.out) hb); have n2_ := Aside0.mk (Kd.R_below (by (with_reducible repeat (first | apply Kd.R_alloc | apply Kd.R_drewN | apply Kd.R_drew)); exact HO209.out) hb); have n3_ := Aside0.mk (below_step (by repeat (first | (with_reducible first | exact HB.out | apply below_alloc | apply pw_below_drewN | apply below_drew1) | exact HB.out)) hb); clear HO201; clear HO205; clear HO209; clear HB; have HO201 := n0_; have HO205 := n1_; have HO209 := n2_; have HB := n3_; clear n0_ n1_ n2_ n3_; (try clear hb); (try clear hb2); (try clear hk); (try clear hi)) | (go_at_call 27; (with_reducible refine (edit_Grow.calls k _ _ t199 t214 _ ?side1 ?side2 A20.out).mono ?_); (case side1 => repeat (first | exact (Kd.R_reads' HO201.out).2.2 | (with_reducible refine Kd.C_alloc ?_ _) | (with_reducible refine Kd.C_drewN ?_ _) | (with_reducible refine Kd.C_drew ?_))); (case side2 => exact (Kd.R_reads' HO201.out).2.1); rintro e w25 ⟨rfl, hb⟩; have n0_ := Aside0.mk (Kd.R_below (by (with_reducible repeat (first | apply Kd.R_alloc | apply Kd.R_drewN | apply Kd.R_drew)); exact HO201.out) hb); have n1_ := Aside0.mk (Kd.R_below (by (with_reducible repeat (first | apply Kd.R_alloc | apply Kd.R_drewN | apply Kd.R_drew)); exact HO205.out) hb); have n2_ := Aside0.mk (Kd.R_below (by (with_reducible repeat (first | apply Kd.R_alloc | apply Kd.R_drewN | apply Kd.R_drew)); exact HO209.out) hb); have n3_ := Aside0.mk (below_step (by repeat (first | (with_reducible first | exact HB.out | apply below_alloc | apply pw_below_drewN | apply below_drew1) | exact HB.out)) hb); clear HO201; clear HO205; clear HO209; clear HB; have HO201 := n0_; have HO205 := n1_; have HO209 := n2_; have HB := n3_; clear n0_ n1_ n2_ n3_; (try clear hb); (try clear hb2); (try clear hk); (try clear hi)))
                go_meet
                case rel => exact ⟨_, ((t213 != (wrap64 (-t214)))), (by first | rfl | (rw [Option.some.inj (A17.out.symm.trans A20.out)]) | (simp; done) | (simp [*]; done)), H', ⟨by first | omega | exact Nat.le_refl _⟩, ⟨by (with_reducible repeat (first | apply Kd.R_alloc | apply Kd.R_drewN | apply Kd.R_drew)); exact Kd.R_mono HO201.out (fun _ hk => hk.2)⟩, ⟨by (with_reducible repeat (first | apply Kd.R_alloc | apply Kd.R_drewN | apply Kd.R_drew)); exact HO205.out⟩, ⟨by (with_reducible repeat (first | apply Kd.R_alloc | apply Kd.R_drewN | apply Kd.R_drew)); exact Kd.R_mono HO209.out (fun _ hk => hk.2)⟩, ⟨by repeat (first | (with_reducible first | exact HB.out | apply below_alloc | apply pw_below_drewN | apply below_drew1) | exact HB.out)⟩⟩
              · rw [if_neg c18] at H
                have c18b0 : ((t202.length : Int) == (wrap64 ((y195.length : Int) + t212))) = false := beq_eq_false_iff_ne.mpr c18
                have c18b1 : ((t202.length : Int) != (wrap64 ((y195.length : Int) + t212))) = true := bne_iff_ne.mpr c18
                (try (have c18b2 : ((t202.length : Int) == (IntKind.i64.wrap ((y195.length : Int) + t212))) = false := by simp only [i64_w]; exact beq_eq_false_iff_ne.mpr c18))
                (try (have c18b3 : ((t202.length : Int) != (IntKind.i64.wrap ((y195.length : Int) + t212))) = true := by simp only [i64_w]; exact bne_iff_ne.mpr c18))
                have H' := Aside0.mk H
                clear H
                obtain ⟨Ao26, co26, eo26⟩ := Kd.R_slice HO209.out
                subst eo26
                obtain ⟨Ao27, co27, eo27⟩ := Kd.R_slice HO205.out
                subst eo27
                go_wp2_with (first | (go_at_call 27; (with_reducible refine (edit_Grow.calls k _ _ t199 t212 _ ?side1 ?side2 A17.out).mono ?_); (case side1 => repeat (first | exact (Kd.R_reads' HO201.out).2.2 | (with_reducible refine Kd.C_alloc ?_ _) | (with_reducible refine Kd.C_drewN ?_ _) | (with_reducible refine Kd.C_drew ?_))); (case side2 => exact (Kd.R_reads' HO201.out).2.1); rintro e w28 ⟨rfl, hb⟩; have n0_ := Aside0.mk (Kd.R_below (by (with_reducible repeat (first | apply Kd.R_alloc | apply Kd.R_drewN | apply Kd.R_drew)); exact HO201.out) hb); have n1_ := Aside0.mk (Kd.R_below (by (with_reducible repeat (first | apply Kd.R_alloc | apply Kd.R_drewN | apply Kd.R_drew)); exact HO205.out) hb); have n2_ := Aside0.mk (Kd.R_below (by (with_reducible repeat (first | apply Kd.R_alloc | apply Kd.R_drewN | apply Kd.R_drew)); exact HO209.out) hb); have n3_ := Aside0.mk (below_step (by repeat (first | (with_reducible first | exact HB.out | apply below_alloc | apply pw_below_drewN | apply below_drew1) | exact HB.out)) hb); clear HO201; clear HO205; clear HO209; clear HB; have HO201 := n0_; have HO205 := n1_; have HO209 := n2_; have HB := n3_; clear n0_ n1_ n2_ n3_; (try clear hb); (try clear hb2); (try clear hk); (try clear hi)))
                go_meet
                case rel => exact ⟨_, (true), (by first | rfl | (simp; done) | (simp [*]; done)), H', ⟨by first | omega | exact Nat.le_refl _⟩, ⟨by (with_reducible repeat (first | apply Kd.R_alloc | apply Kd.R_drewN | apply Kd.R_drew)); exact Kd.R_mono HO201.out (fun _ hk => hk.2)⟩, ⟨by (with_reducible repeat (first | apply Kd.R_alloc | apply Kd.R_drewN | apply Kd.R_drew)); exact HO205.out⟩, ⟨by (with_reducible repeat (first | apply Kd.R_alloc | apply Kd.R_drewN | apply Kd.R_drew)); exact Kd.R_mono HO209.out (fun _ hk => hk.2)⟩, ⟨by repeat (first | (with_reducible first | exact HB.out | apply below_alloc | apply pw_below_drewN | apply below_drew1) | exact HB.out)⟩⟩
            · rw [if_neg c16] at H
              have c16b0 : ((t206.length : Int) == (t199.length : Int)) = false := beq_eq_false_iff_ne.mpr c16
              have c16b1 : ((t206.length : Int) != (t199.length : Int)) = true := bne_iff_ne.mpr c16
              have c16b2 : (t206.length == t199.length) = false := by first | simpa using c16 | (simp at c16 ⊢; omega)
              (first | rw [c16b0] | (simp only [i64_w, i32_w]; rw [c16b0]) | skip)
              have H' := Aside0.mk H
              clear H
              obtain ⟨Ao29, co29, eo29⟩ := Kd.R_slice HO209.out
              subst eo29
              go_wp2
              go_meet
              case rel => exact ⟨_, (true), (by first | rfl | (simp; done) | (simp [*]; done)), H', ⟨by first | omega | exact Nat.le_refl _⟩, ⟨by (with_reducible repeat (first | apply Kd.R_alloc | apply Kd.R_drewN | apply Kd.R_drew)); exact Kd.R_mono HO201.out (fun _ hk => hk.2)⟩, ⟨by (with_reducible repeat (first | apply Kd.R_alloc | apply Kd.R_drewN | apply Kd.R_drew)); exact HO205.out⟩, ⟨by (with_reducible repeat (first | apply Kd.R_alloc | apply Kd.R_drewN | apply Kd.R_drew)); exact Kd.R_mono HO209.out (fun _ hk => hk.2)⟩, ⟨by repeat (first | (with_reducible first | exact HB.out | apply below_alloc | apply pw_below_drewN | apply below_drew1) | exact HB.out)⟩⟩
          · have H1 : (cavillaw04_EditBack.j0 k y195 t199 t202 t206 true) = some r := by rw [if_neg (show ¬ (some q211).isNone = true by simp)] at H; exact H
            clear H
            have H := H1
            clear H1
            try simp only [errW_none, errW_some, erT_no, erV_no, erT_at, erV_at]
            have H' := Aside0.mk H
            clear H
            go_wp2
            go_meet
            case rel => exact ⟨_, (true), (by first | rfl | (simp; done) | (simp [*]; done)), H', ⟨by first | omega | exact Nat.le_refl _⟩, ⟨by (with_reducible repeat (first | apply Kd.R_alloc | apply Kd.R_drewN | apply Kd.R_drew)); exact Kd.R_mono HO201.out (fun _ hk => hk.2)⟩, ⟨by (with_reducible repeat (first | apply Kd.R_alloc | apply Kd.R_drewN | apply Kd.R_drew)); exact HO205.out⟩, ⟨by (with_reducible repeat (first | apply Kd.R_alloc | apply Kd.R_drewN | apply Kd.R_drew)); exact Kd.R_mono HO209.out (fun _ hk => hk.2)⟩, ⟨by repeat (first | (with_reducible first | exact HB.out | apply below_alloc | apply pw_below_drewN | apply below_drew1) | exact HB.out)⟩⟩
        case rest =>
          clear HC9
          try clear c1
          try clear q1
          try clear c2
          try clear p2
          try clear q2
          try clear c3
          try clear c4
          try clear c4b0
          try clear c4b1
          try clear c5
          try clear c5b0
          try clear c5b1
          try clear p6
          try clear c7
          try clear q11
          try clear c16
          try clear c16b0
          try clear c16b1
          try clear c16b2
          try clear c18
          try clear c18b0
          try clear c18b1
          try clear c18b2
          try clear q21
          try clear c22
          try clear q11
          try clear q210
          try clear q211
          obtain ⟨kq, x77_8, rfl, HA, HJ8, HO_1, HO_5, HO_7, HB⟩ := hcut
          cases kq with
          | zero => exact absurd HA.out (by simp [cavillaw04_EditBack.j0])
          | succ kj8 =>
            have H := HA.out
            clear HA
            simp only [cavillaw04_EditBack.j0] at H
            by_cases c30 : x77_8 = true
            · subst c30
              have H1 : (some false) = some r := by rw [if_pos rfl] at H; exact H
              clear H
              have H := H1
              clear H1
              obtain rfl := Option.some.inj H
              go_wp2
              go_ret
              exact ⟨by first | rfl | (simp [errW_none, errW_some, erT_no, erV_no, erT_at, erV_at] <;> rfl) | (simp only [← hji3]; first | rfl | (simp [errW_none, errW_some, erT_no, erV_no, erT_at, erV_at] <;> rfl)) | (simp [*, errW_none, errW_some, erT_no, erV_no, erT_at, erV_at] <;> rfl), by repeat (first | (with_reducible first | exact HB.out | apply below_alloc | apply pw_below_drewN | apply below_drew1) | exact HB.out)⟩
            · replace c30 := Bool.eq_false_iff.mpr c30
              subst c30
              have H1 : (cavillaw04_EditBack.l0 kj8 y195 t199 t202 0 ([] : List Int) t206 (t206.length : Int) 0) = some r := by rw [if_neg (show ¬ (false = true) by decide)] at H; exact H
              clear H
              have H := H1
              clear H1
              have H' := Aside0.mk H
              clear H
              obtain ⟨Ao31, co31, eo31⟩ := Kd.R_slice HO_7.out
              subst eo31
              go_wp2
              go_loopg [9, 10, 80] kj8 (fun kq v9 v10 v80 w' => ∃ (x9_2 : Int) (x10_2 : List Int) (x80_2 : Int), v9 = .int .i64 x9_2 ∧ v80 = .int .i64 x80_2 ∧ Aside0 (cavillaw04_EditBack.l0 kq y195 t199 t202 x9_2 x10_2 t206 (t206.length : Int) x80_2 = some r) ∧ Aside0 (kq ≤ kj8) ∧ Aside0 (Kd.R k64 64 w' w.heap.size (fun k_ => some k_ ≠ ((.slice Ao31 t206.length co31) : Value).ownBlock) (.slice Ao13 t199.length co13) t199) ∧ Aside0 (Kd.R (Kd.int .u8) 5 w' w.heap.size (fun k_ => some k_ ≠ (v10 : Value).ownBlock) v204 t202) ∧ Aside0 (Kd.R (Kd.int .u8) 5 w' w.heap.size (fun k_ => some k_ ≠ (v204 : Value).ownBlock) v10 x10_2) ∧ Aside0 (Kd.R k64 64 w' w.heap.size (fun k_ => some k_ ≠ ((.slice Ao13 t199.length co13) : Value).ownBlock) (.slice Ao31 t206.length co31) t206) ∧ Aside0 (Below w.heap.size w w'))
              case atStart => exact ⟨(0), (([] : List Int)), (0), (by first | rfl | (simp; done) | (simp [*]; done)), (by first | rfl | (simp; done) | (simp [*]; done)), H', ⟨Nat.le_refl _⟩, ⟨by (with_reducible repeat (first | apply Kd.R_alloc | apply Kd.R_drewN | apply Kd.R_drew)); exact HO_1.out⟩, ⟨by (with_reducible repeat (first | apply Kd.R_alloc | apply Kd.R_drewN | apply Kd.R_drew)); exact Kd.R_mono HO_5.out (fun _ hk => (by simp [Value.ownBlock]))⟩, ⟨by first | exact Kd.R_nil _ _ _ _ _ | exact Kd.N_nil _ _ _ _ _ | exact Kd.V_nil _ _ _ _ _ | exact Kd.Q_nil _ _ _ _ _ | exact Kd.S_nil _ _ _ _ _⟩, ⟨by (with_reducible repeat (first | apply Kd.R_alloc | apply Kd.R_drewN | apply Kd.R_drew)); exact HO_7.out⟩, ⟨by repeat (first | (with_reducible first | exact HB.out | apply below_alloc | apply pw_below_drewN | apply below_drew1) | exact HB.out)⟩⟩
              case round =>
                clear H'
                try clear c1
                try clear q1
                try clear c2
                try clear p2
                try clear q2
                try clear c3
                try clear c4
                try clear c4b0
                try clear c4b1
                try clear c5
                try clear c5b0
                try clear c5b1
                try clear p6
                try clear c7
                try clear q11
                try clear c16
                try clear c16b0
                try clear c16b1
                try clear c16b2
                try clear c18
                try clear c18b0
                try clear c18b1
                try clear c18b2
                try clear q21
                try clear c22
                try clear c30
                try clear c31
                try clear p2
                try clear p6
                try clear q1
                try clear q11
                try clear q2
                try clear q21
                try clear q210
                try clear q211
                obtain ⟨x9_2, x10_2, x80_2, rfl, rfl, HA, HK2, HO_1, HO_5, HO_10, HO_78, HB⟩ := hrel
                cases gk with
                | zero => exact absurd HA.out (by simp [cavillaw04_EditBack.l0])
                | succ k2 =>
                  have H := HA.out
                  clear HA
                  simp only [cavillaw04_EditBack.l0] at H
                  by_cases c32 : x80_2 < (t206.length : Int)
                  · rw [if_pos c32] at H
                    have c32b0 : decide (x80_2 < (t206.length : Int)) = true := decide_eq_true c32
                    clear c32
                    by_cases c33 : 0 ≤ x80_2
                    · rw [if_pos c33] at H
                      have c33b0 : decide (0 ≤ x80_2) = true := decide_eq_true c33
                      clear c33
                      by_cases c34 : x80_2 < (t206.length : Int)
                      · rw [if_pos c34] at H
                        have c34b0 : decide (x80_2 < (t206.length : Int)) = true := decide_eq_true c34
                        clear c34
                        by_cases c35 : ((rd_T64 t206 x80_2).f0) < x9_2
                        · rw [if_pos c35] at H
                          have c35b0 : decide (((rd_T64 t206 x80_2).f0) < x9_2) = true := decide_eq_true c35
                          clear c35
                          obtain rfl := Option.some.inj H
                          have p215 : 0 ≤ (x80_2 : Int) := of_decide_eq_true (by first | (with_reducible assumption) | assumption)
                          have q215 : x80_2 < (t206.length : Int) := of_decide_eq_true (by first | (with_reducible assumption) | assumption)
                          obtain ⟨ad215, e215, hx215_0, hx215_1, hx215_2⟩ := at_T64 (Kd.R_reads' HO_78.out).2.2 x80_2 p215 q215
                          cases e215
                          replace p215 := eq_true p215
                          replace q215 := eq_true q215
                          try go_wp2_with (first | ((with_reducible refine gate_dst (N := 12) rfl ?_); (try (refine gate_guard (by rfl) ?_; dsimp only)); refine box_event ?hg (N := 12) ?hd (cs := #[.int .i64 0, .int .i64 0, .string (⟨#[]⟩ : ByteArray)]) (t := 64) ?hr ?_; (case hd => rfl); (case hg => rfl); (case hr => first | (go_simp; done) | (go_simp; rfl)); intro gb216 hg w36 hbox hb; have n0_ := Aside0.mk (Kd.R_below (Kd.R_elderB (by (with_reducible repeat (first | apply Kd.R_alloc | apply Kd.R_drewN | apply Kd.R_drew)); exact HO_1.out) gb216 (Nat.le_of_eq hg.symm)) hb); have n1_ := Aside0.mk (Kd.R_below (by (with_reducible repeat (first | apply Kd.R_alloc | apply Kd.R_drewN | apply Kd.R_drew)); exact HO_5.out) hb); have n2_ := Aside0.mk (Kd.R_below (by (with_reducible repeat (first | apply Kd.R_alloc | apply Kd.R_drewN | apply Kd.R_drew)); exact HO_10.out) hb); have n3_ := Aside0.mk (Kd.R_below (Kd.R_elderB (by (with_reducible repeat (first | apply Kd.R_alloc | apply Kd.R_drewN | apply Kd.R_drew)); exact HO_78.out) gb216 (Nat.le_of_eq hg.symm)) hb); have n4_ := Aside0.mk (below_step (by repeat (first | (with_reducible first | exact HB.out | apply below_alloc | apply pw_below_drewN | apply below_drew1) | exact HB.out)) hb); have n5_ := Aside0.mk (hbox); have n6_ := Aside0.mk ((by rw [hg]; exact (below_size (by repeat (first | (with_reducible first | exact HB.out | apply below_alloc | apply pw_below_drewN | apply below_drew1) | exact HB.out))) : w.heap.size ≤ gb216)); have n7_ := Aside0.mk ((by rw [hg]; exact (below_size (by repeat (first | (with_reducible first | exact HB.out | apply below_alloc | apply pw_below_drewN | apply below_drew1) | exact HB.out))) : w.heap.size ≤ gb216)); clear HO_1; clear HO_5; clear HO_10; clear HO_78; clear HB; have HO_1 := n0_; have HO_5 := n1_; have HO_10 := n2_; have HO_78 := n3_; have HB := n4_; have BK216 := n5_; have GW216 := n6_; have GE216 := n7_; clear n0_ n1_ n2_ n3_ n4_ n5_ n6_ n7_; clear hb hbox hg; have hcz37_0 : w36.cell? ⟨gb216, 0, none⟩ = some (.int .i64 0) := (blk_cell BK216.out 0).trans rfl; have hcz37_1 : w36.cell? ⟨gb216, 1, none⟩ = some (.int .i64 0) := (blk_cell BK216.out 1).trans rfl; have hcz37_2 : w36.cell? ⟨gb216, 2, none⟩ = some (.string (⟨#[]⟩ : ByteArray)) := (blk_cell BK216.out 2).trans rfl; have hfz37_0 := blk_frozen BK216.out 0; have hfz37_1 := blk_frozen BK216.out 1; have hfz37_2 := blk_frozen BK216.out 2))
                          have n0_ : Aside0 (Kd.R k64 64 (((w36.setCell ⟨gb216, 0, none⟩ (.int .i64 ((rd_T64 t206 x80_2).f0))).setCell ⟨gb216, 1, none⟩ (.int .i64 ((rd_T64 t206 x80_2).f1))).setCell ⟨gb216, 2, none⟩ (.string ((rd_T64 t206 x80_2).f2))) w.heap.size (fun k_ => some k_ ≠ (.slice (some ad215) t206.length co31 : Value).ownBlock ∧ k_ ≠ gb216) (.slice Ao13 t199.length co13) t199) := ⟨by (with_reducible repeat (first | apply Kd.R_alloc | apply Kd.R_drewN | apply Kd.R_drew)); exact Kd.R_mono (Kd.R_far (p := ⟨gb216, 2, none⟩) (Kd.R_far (p := ⟨gb216, 1, none⟩) (Kd.R_far (p := ⟨gb216, 0, none⟩) (Kd.R_mono HO_1.out (fun k_ hk => (⟨hk, hk.2⟩ : _ ∧ k_ ≠ gb216))) (fun _ hk => hk.2) (.int .i64 ((rd_T64 t206 x80_2).f0))) (fun _ hk => hk.2) (.int .i64 ((rd_T64 t206 x80_2).f1))) (fun _ hk => hk.2) (.string ((rd_T64 t206 x80_2).f2))) (fun _ hk => ⟨hk.1.1, hk.1.2⟩)⟩
                          have n1_ : Aside0 (Kd.R (Kd.int .u8) 5 (((w36.setCell ⟨gb216, 0, none⟩ (.int .i64 ((rd_T64 t206 x80_2).f0))).setCell ⟨gb216, 1, none⟩ (.int .i64 ((rd_T64 t206 x80_2).f1))).setCell ⟨gb216, 2, none⟩ (.string ((rd_T64 t206 x80_2).f2))) w.heap.size (fun k_ => some k_ ≠ (u10 : Value).ownBlock) v204 t202) := ⟨by (with_reducible repeat (first | apply Kd.R_alloc | apply Kd.R_drewN | apply Kd.R_drew)); exact Kd.R_mono (Kd.R_far (p := ⟨gb216, 2, none⟩) (Kd.R_far (p := ⟨gb216, 1, none⟩) (Kd.R_far (p := ⟨gb216, 0, none⟩) (Kd.R_types HO_5.out BK216.out (by decide)) (fun _ hk => hk.2) (.int .i64 ((rd_T64 t206 x80_2).f0))) (fun _ hk => hk.2) (.int .i64 ((rd_T64 t206 x80_2).f1))) (fun _ hk => hk.2) (.string ((rd_T64 t206 x80_2).f2))) (fun _ hk => hk.1)⟩
                          have n2_ : Aside0 (Kd.R (Kd.int .u8) 5 (((w36.setCell ⟨gb216, 0, none⟩ (.int .i64 ((rd_T64 t206 x80_2).f0))).setCell ⟨gb216, 1, none⟩ (.int .i64 ((rd_T64 t206 x80_2).f1))).setCell ⟨gb216, 2, none⟩ (.string ((rd_T64 t206 x80_2).f2))) w.heap.size (fun k_ => some k_ ≠ (v204 : Value).ownBlock) u10 x10_2) := ⟨by (with_reducible repeat (first | apply Kd.R_alloc | apply Kd.R_drewN | apply Kd.R_drew)); exact Kd.R_mono (Kd.R_far (p := ⟨gb216, 2, none⟩) (Kd.R_far (p := ⟨gb216, 1, none⟩) (Kd.R_far (p := ⟨gb216, 0, none⟩) (Kd.R_types HO_10.out BK216.out (by decide)) (fun _ hk => hk.2) (.int .i64 ((rd_T64 t206 x80_2).f0))) (fun _ hk => hk.2) (.int .i64 ((rd_T64 t206 x80_2).f1))) (fun _ hk => hk.2) (.string ((rd_T64 t206 x80_2).f2))) (fun _ hk => hk.1)⟩
                          have n3_ : Aside0 (Kd.R k64 64 (((w36.setCell ⟨gb216, 0, none⟩ (.int .i64 ((rd_T64 t206 x80_2).f0))).setCell ⟨gb216, 1, none⟩ (.int .i64 ((rd_T64 t206 x80_2).f1))).setCell ⟨gb216, 2, none⟩ (.string ((rd_T64 t206 x80_2).f2))) w.heap.size (fun k_ => some k_ ≠ (.slice Ao13 t199.length co13 : Value).ownBlock ∧ k_ ≠ gb216) (.slice (some ad215) t206.length co31) t206) := ⟨by (with_reducible repeat (first | apply Kd.R_alloc | apply Kd.R_drewN | apply Kd.R_drew)); exact Kd.R_mono (Kd.R_far (p := ⟨gb216, 2, none⟩) (Kd.R_far (p := ⟨gb216, 1, none⟩) (Kd.R_far (p := ⟨gb216, 0, none⟩) (Kd.R_mono HO_78.out (fun k_ hk => (⟨hk, hk.2⟩ : _ ∧ k_ ≠ gb216))) (fun _ hk => hk.2) (.int .i64 ((rd_T64 t206 x80_2).f0))) (fun _ hk => hk.2) (.int .i64 ((rd_T64 t206 x80_2).f1))) (fun _ hk => hk.2) (.string ((rd_T64 t206 x80_2).f2))) (fun _ hk => ⟨hk.1.1, hk.1.2⟩)⟩
                          have n4_ : Aside0 ((((w36.setCell ⟨gb216, 0, none⟩ (.int .i64 ((rd_T64 t206 x80_2).f0))).setCell ⟨gb216, 1, none⟩ (.int .i64 ((rd_T64 t206 x80_2).f1))).setCell ⟨gb216, 2, none⟩ (.string ((rd_T64 t206 x80_2).f2))).heap[gb216]? = some (.cells #[.int .i64 ((rd_T64 t206 x80_2).f0), .int .i64 ((rd_T64 t206 x80_2).f1), .string ((rd_T64 t206 x80_2).f2)] 64 (0, 0))) := ⟨by (with_reducible repeat (first | refine blk_drewN ?_ _ | refine blk_drew ?_ | refine blk_alloc ?_ _)); refine blk_put (cs := #[.int .i64 ((rd_T64 t206 x80_2).f0), .int .i64 ((rd_T64 t206 x80_2).f1), .string (⟨#[]⟩ : ByteArray)]) ?_ 2 _ rfl; (with_reducible repeat (first | refine blk_drewN ?_ _ | refine blk_drew ?_ | refine blk_alloc ?_ _)); refine blk_put (cs := #[.int .i64 ((rd_T64 t206 x80_2).f0), .int .i64 0, .string (⟨#[]⟩ : ByteArray)]) ?_ 1 _ rfl; (with_reducible repeat (first | refine blk_drewN ?_ _ | refine blk_drew ?_ | refine blk_alloc ?_ _)); refine blk_put (cs := #[.int .i64 0, .int .i64 0, .string (⟨#[]⟩ : ByteArray)]) ?_ 0 _ rfl; (with_reducible repeat (first | refine blk_drewN ?_ _ | refine blk_drew ?_ | refine blk_alloc ?_ _)); exact BK216.out⟩
                          have n5_ : Aside0 (Below w.heap.size w (((w36.setCell ⟨gb216, 0, none⟩ (.int .i64 ((rd_T64 t206 x80_2).f0))).setCell ⟨gb216, 1, none⟩ (.int .i64 ((rd_T64 t206 x80_2).f1))).setCell ⟨gb216, 2, none⟩ (.string ((rd_T64 t206 x80_2).f2)))) := ⟨by repeat (first | (with_reducible first | exact HB.out | apply below_alloc | apply pw_below_drewN | apply below_drew1 | refine below_set ?_ GE216.out) | exact HB.out)⟩
                          (try clear HO_1)
                          (try clear HO_5)
                          (try clear HO_10)
                          (try clear HO_78)
                          (try clear BK216)
                          (try clear HB)
                          generalize (((w36.setCell ⟨gb216, 0, none⟩ (.int .i64 ((rd_T64 t206 x80_2).f0))).setCell ⟨gb216, 1, none⟩ (.int .i64 ((rd_T64 t206 x80_2).f1))).setCell ⟨gb216, 2, none⟩ (.string ((rd_T64 t206 x80_2).f2))) = w38 at n0_ n1_ n2_ n3_ n4_ n5_ ⊢
                          have HO_1 := n0_
                          have HO_5 := n1_
                          have HO_10 := n2_
                          have HO_78 := n3_
                          have BK216 := n4_
                          have HB := n5_
                          clear n0_ n1_ n2_ n3_ n4_ n5_
                          have n0_ := Aside0.mk (Kd.R_drew HO_1.out)
                          have n1_ := Aside0.mk (Kd.R_drew HO_5.out)
                          have n2_ := Aside0.mk (Kd.R_drew HO_10.out)
                          have n3_ := Aside0.mk (Kd.R_drew HO_78.out)
                          have n4_ := Aside0.mk (blk_drew BK216.out)
                          have n5_ := Aside0.mk (below_drew1 HB.out)
                          clear HO_1
                          clear HO_5
                          clear HO_10
                          clear HO_78
                          clear BK216
                          clear HB
                          have HO_1 := n0_
                          have HO_5 := n1_
                          have HO_10 := n2_
                          have HO_78 := n3_
                          have BK216 := n4_
                          have HB := n5_
                          clear n0_ n1_ n2_ n3_ n4_ n5_
                          refine start_ (n := 33) (S := fun w' => w'.cell? ⟨gb216, 0, none⟩ = some (.int .i64 ((rd_T64 t206 x80_2).f0)) ∧ w'.cell? ⟨gb216, 1, none⟩ = some (.int .i64 ((rd_T64 t206 x80_2).f1)) ∧ w'.cell? ⟨gb216, 2, none⟩ = some (.string ((rd_T64 t206 x80_2).f2))) (ds := []) #[false, false, false, false, false, false, false, false, false, false, false, false, false, false, false, false, false, false, false, false, false, false, false, false, false, false, false, false, false, false, false, false, false] (by kernel_rfl) rfl rfl ⟨(blk_cell BK216.out 0).trans rfl, (blk_cell BK216.out 1).trans rfl, (blk_cell BK216.out 2).trans rfl⟩ (fun hHeld => ?_); refine with_tabW cavillaw04_EditBack.tab13 cavillaw04_EditBack.bits13 (fun HT_ HW_ => ?_)
                          generalize w38.drew = w39 at HO_1 HO_5 HO_10 HO_78 BK216 HB hHeld ⊢
                          refine pure_ (i := 0) (N := some 85) (v := ?_) (a' := ?_) (bl_ 33 1) rfl rfl (any_of HT_.out (by kernel_rfl)) (fun _ _ _ h => h) (Or.inl ⟨by rfl, ?_⟩) ?_ ?_; rotate_left; { intro w'; go_simp; with_reducible rfl }; rotate_left; { simp only [Act.put, List.setIfInBounds_toArray, List.set_cons_zero, List.set_cons_succ, i64_w, i32_w]; rfl }
                          refine pure_ (i := 2) (N := some 87) (v := ?_) (a' := ?_) (bl_ 33 5) rfl rfl (any_of HT_.out (by kernel_rfl)) (fun _ _ _ h => h) (Or.inl ⟨by rfl, ?_⟩) ?_ ?_; rotate_left; { intro w'; go_simp; with_reducible rfl }; rotate_left; { simp only [Act.put, List.setIfInBounds_toArray, List.set_cons_zero, List.set_cons_succ, i64_w, i32_w]; rfl }
                          refine take_ (i := 1) (N := some 86) (v := ?_) (a' := ?_) (bl_ 33 7) rfl rfl (take_ofW HT_.out HW_.out (by kernel_rfl)) (fun _ _ _ h => h) (Or.inl ⟨by rfl, ?_⟩) hHeld ?_ ?_; rotate_left; { rintro w' ⟨s0, s1, s2⟩; go_simp; with_reducible rfl }; rotate_left; { simp only [Act.put, List.setIfInBounds_toArray, List.set_cons_zero, List.set_cons_succ, i64_w, i32_w]; rfl }
                          refine pure_ (i := 3) (N := some 88) (v := ?_) (a' := ?_) (bl_ 33 15) rfl rfl (any_of HT_.out (by kernel_rfl)) (fun _ _ _ h => h) (Or.inl ⟨by rfl, ?_⟩) ?_ ?_; rotate_left; { intro w'; go_simp; with_reducible rfl }; rotate_left; { simp only [Act.put, List.setIfInBounds_toArray, List.set_cons_zero, List.set_cons_succ, i64_w, i32_w]; rfl }
                          refine pure_ (i := 4) (N := some 89) (v := ?_) (a' := ?_) (bl_ 33 31) rfl rfl (any_of HT_.out (by kernel_rfl)) (fun _ _ _ h => h) (Or.inl ⟨by rfl, ?_⟩) ?_ ?_; rotate_left; { intro w'; go_simp; with_reducible rfl }; rotate_left; { simp only [Act.put, List.setIfInBounds_toArray, List.set_cons_zero, List.set_cons_succ, i64_w, i32_w]; rfl }
                          refine pure_ (i := 5) (N := some 90) (v := undef) (a' := ?_) (bl_ 33 63) rfl rfl (any_of HT_.out (by kernel_rfl)) (fun _ _ _ h => h) (Or.inr ⟨by rfl, rfl⟩) ?_ ?_; rotate_left; { simp only [Act.put, List.setIfInBounds_toArray, List.set_cons_zero, List.set_cons_succ, i64_w, i32_w]; rfl }
                          refine pure_ (i := 6) (N := some 91) (v := undef) (a' := ?_) (bl_ 33 127) rfl rfl (any_of HT_.out (by kernel_rfl)) (fun _ _ _ h => h) (Or.inr ⟨by rfl, rfl⟩) ?_ ?_; rotate_left; { simp only [Act.put, List.setIfInBounds_toArray, List.set_cons_zero, List.set_cons_succ, i64_w, i32_w]; rfl }
                          refine pure_ (i := 7) (N := some 92) (v := undef) (a' := ?_) (bl_ 33 255) rfl rfl (any_of HT_.out (by kernel_rfl)) (fun _ _ _ h => h) (Or.inr ⟨by rfl, rfl⟩) ?_ ?_; rotate_left; { simp only [Act.put, List.setIfInBounds_toArray, List.set_cons_zero, List.set_cons_succ, i64_w, i32_w]; rfl }
                          refine pure_ (i := 8) (N := some 93) (v := undef) (a' := ?_) (bl_ 33 511) rfl rfl (any_of HT_.out (by kernel_rfl)) (fun _ _ _ h => h) (Or.inr ⟨by rfl, rfl⟩) ?_ ?_; rotate_left; { simp only [Act.put, List.setIfInBounds_toArray, List.set_cons_zero, List.set_cons_succ, i64_w, i32_w]; rfl }
                          refine pure_ (i := 9) (N := some 94) (v := undef) (a' := ?_) (bl_ 33 1023) rfl rfl (any_of HT_.out (by kernel_rfl)) (fun _ _ _ h => h) (Or.inr ⟨by rfl, rfl⟩) ?_ ?_; rotate_left; { simp only [Act.put, List.setIfInBounds_toArray, List.set_cons_zero, List.set_cons_succ, i64_w, i32_w]; rfl }
                          refine pure_ (i := 10) (N := some 95) (v := ?_) (a' := ?_) (bl_ 33 2047) rfl rfl (any_of HT_.out (by kernel_rfl)) (fun _ _ _ h => h) (Or.inl ⟨by rfl, ?_⟩) ?_ ?_; rotate_left; { intro w'; go_simp; with_reducible rfl }; rotate_left; { simp only [Act.put, List.setIfInBounds_toArray, List.set_cons_zero, List.set_cons_succ, i64_w, i32_w]; rfl }
                          refine pure_ (i := 11) (N := some 96) (v := ?_) (a' := ?_) (bl_ 33 4095) rfl rfl (any_of HT_.out (by kernel_rfl)) (fun _ _ _ h => h) (Or.inl ⟨by rfl, ?_⟩) ?_ ?_; rotate_left; { intro w'; go_simp; with_reducible rfl }; rotate_left; { simp only [Act.put, List.setIfInBounds_toArray, List.set_cons_zero, List.set_cons_succ, i64_w, i32_w]; rfl }
                          refine pure_ (i := 12) (N := some 97) (v := undef) (a' := ?_) (bl_ 33 8191) rfl rfl (any_of HT_.out (by kernel_rfl)) (fun _ _ _ h => h) (Or.inr ⟨by rfl, rfl⟩) ?_ ?_; rotate_left; { simp only [Act.put, List.setIfInBounds_toArray, List.set_cons_zero, List.set_cons_succ, i64_w, i32_w]; rfl }
                          refine pure_ (i := 13) (N := some 98) (v := undef) (a' := ?_) (bl_ 33 16383) rfl rfl (any_of HT_.out (by kernel_rfl)) (fun _ _ _ h => h) (Or.inr ⟨by rfl, rfl⟩) ?_ ?_; rotate_left; { simp only [Act.put, List.setIfInBounds_toArray, List.set_cons_zero, List.set_cons_succ, i64_w, i32_w]; rfl }
                          refine pure_ (i := 14) (N := some 99) (v := undef) (a' := ?_) (bl_ 33 32767) rfl rfl (any_of HT_.out (by kernel_rfl)) (fun _ _ _ h => h) (Or.inr ⟨by rfl, rfl⟩) ?_ ?_; rotate_left; { simp only [Act.put, List.setIfInBounds_toArray, List.set_cons_zero, List.set_cons_succ, i64_w, i32_w]; rfl }
                          refine pure_ (i := 15) (N := some 100) (v := undef) (a' := ?_) (bl_ 33 65535) rfl rfl (any_of HT_.out (by kernel_rfl)) (fun _ _ _ h => h) (Or.inr ⟨by rfl, rfl⟩) ?_ ?_; rotate_left; { simp only [Act.put, List.setIfInBounds_toArray, List.set_cons_zero, List.set_cons_succ, i64_w, i32_w]; rfl }
                          refine pure_ (i := 16) (N := some 101) (v := undef) (a' := ?_) (bl_ 33 131071) rfl rfl (any_of HT_.out (by kernel_rfl)) (fun _ _ _ h => h) (Or.inr ⟨by rfl, rfl⟩) ?_ ?_; rotate_left; { simp only [Act.put, List.setIfInBounds_toArray, List.set_cons_zero, List.set_cons_succ, i64_w, i32_w]; rfl }
                          refine pure_ (i := 17) (N := some 102) (v := ?_) (a' := ?_) (bl_ 33 262143) rfl rfl (any_of HT_.out (by kernel_rfl)) (fun _ _ _ h => h) (Or.inl ⟨by rfl, ?_⟩) ?_ ?_; rotate_left; { intro w'; go_simp; with_reducible rfl }; rotate_left; { simp only [Act.put, List.setIfInBounds_toArray, List.set_cons_zero, List.set_cons_succ, i64_w, i32_w]; rfl }
                          refine pure_ (i := 18) (N := some 103) (v := ?_) (a' := ?_) (bl_ 33 524287) rfl rfl (any_of HT_.out (by kernel_rfl)) (fun _ _ _ h => h) (Or.inl ⟨by rfl, ?_⟩) ?_ ?_; rotate_left; { intro w'; go_simp; with_reducible rfl }; rotate_left; { simp only [Act.put, List.setIfInBounds_toArray, List.set_cons_zero, List.set_cons_succ, i64_w, i32_w]; rfl }
                          refine pure_ (i := 19) (N := some 104) (v := undef) (a' := ?_) (bl_ 33 1048575) rfl rfl (any_of HT_.out (by kernel_rfl)) (fun _ _ _ h => h) (Or.inr ⟨by rfl, rfl⟩) ?_ ?_; rotate_left; { simp only [Act.put, List.setIfInBounds_toArray, List.set_cons_zero, List.set_cons_succ, i64_w, i32_w]; rfl }
                          refine pure_ (i := 20) (N := some 105) (v := undef) (a' := ?_) (bl_ 33 2097151) rfl rfl (any_of HT_.out (by kernel_rfl)) (fun _ _ _ h => h) (Or.inr ⟨by rfl, rfl⟩) ?_ ?_; rotate_left; { simp only [Act.put, List.setIfInBounds_toArray, List.set_cons_zero, List.set_cons_succ, i64_w, i32_w]; rfl }
                          refine pure_ (i := 21) (N := some 106) (v := undef) (a' := ?_) (bl_ 33 4194303) rfl rfl (any_of HT_.out (by kernel_rfl)) (fun _ _ _ h => h) (Or.inr ⟨by rfl, rfl⟩) ?_ ?_; rotate_left; { simp only [Act.put, List.setIfInBounds_toArray, List.set_cons_zero, List.set_cons_succ, i64_w, i32_w]; rfl }
                          refine pure_ (i := 22) (N := some 107) (v := undef) (a' := ?_) (bl_ 33 8388607) rfl rfl (any_of HT_.out (by kernel_rfl)) (fun _ _ _ h => h) (Or.inr ⟨by rfl, rfl⟩) ?_ ?_; rotate_left; { simp only [Act.put, List.setIfInBounds_toArray, List.set_cons_zero, List.set_cons_succ, i64_w, i32_w]; rfl }
                          refine pure_ (i := 23) (N := some 108) (v := undef) (a' := ?_) (bl_ 33 16777215) rfl rfl (any_of HT_.out (by kernel_rfl)) (fun _ _ _ h => h) (Or.inr ⟨by rfl, rfl⟩) ?_ ?_; rotate_left; { simp only [Act.put, List.setIfInBounds_toArray, List.set_cons_zero, List.set_cons_succ, i64_w, i32_w]; rfl }
                          refine pure_ (i := 24) (N := some 109) (v := undef) (a' := ?_) (bl_ 33 33554431) rfl rfl (any_of HT_.out (by kernel_rfl)) (fun _ _ _ h => h) (Or.inr ⟨by rfl, rfl⟩) ?_ ?_; rotate_left; { simp only [Act.put, List.setIfInBounds_toArray, List.set_cons_zero, List.set_cons_succ, i64_w, i32_w]; rfl }
                          refine pure_ (i := 25) (N := some 110) (v := undef) (a' := ?_) (bl_ 33 67108863) rfl rfl (any_of HT_.out (by kernel_rfl)) (fun _ _ _ h => h) (Or.inr ⟨by rfl, rfl⟩) ?_ ?_; rotate_left; { simp only [Act.put, List.setIfInBounds_toArray, List.set_cons_zero, List.set_cons_succ, i64_w, i32_w]; rfl }
                          refine pure_ (i := 26) (N := some 111) (v := undef) (a' := ?_) (bl_ 33 134217727) rfl rfl (any_of HT_.out (by kernel_rfl)) (fun _ _ _ h => h) (Or.inr ⟨by rfl, rfl⟩) ?_ ?_; rotate_left; { simp only [Act.put, List.setIfInBounds_toArray, List.set_cons_zero, List.set_cons_succ, i64_w, i32_w]; rfl }
                          refine pure_ (i := 27) (N := some 112) (v := undef) (a' := ?_) (bl_ 33 268435455) rfl rfl (any_of HT_.out (by kernel_rfl)) (fun _ _ _ h => h) (Or.inr ⟨by rfl, rfl⟩) ?_ ?_; rotate_left; { simp only [Act.put, List.setIfInBounds_toArray, List.set_cons_zero, List.set_cons_succ, i64_w, i32_w]; rfl }
                          refine pure_ (i := 28) (N := some 113) (v := undef) (a' := ?_) (bl_ 33 536870911) rfl rfl (any_of HT_.out (by kernel_rfl)) (fun _ _ _ h => h) (Or.inr ⟨by rfl, rfl⟩) ?_ ?_; rotate_left; { simp only [Act.put, List.setIfInBounds_toArray, List.set_cons_zero, List.set_cons_succ, i64_w, i32_w]; rfl }
                          refine pure_ (i := 29) (N := some 114) (v := undef) (a' := ?_) (bl_ 33 1073741823) rfl rfl (any_of HT_.out (by kernel_rfl)) (fun _ _ _ h => h) (Or.inr ⟨by rfl, rfl⟩) ?_ ?_; rotate_left; { simp only [Act.put, List.setIfInBounds_toArray, List.set_cons_zero, List.set_cons_succ, i64_w, i32_w]; rfl }
                          refine pure_ (i := 30) (N := some 115) (v := undef) (a' := ?_) (bl_ 33 2147483647) rfl rfl (any_of HT_.out (by kernel_rfl)) (fun _ _ _ h => h) (Or.inr ⟨by rfl, rfl⟩) ?_ ?_; rotate_left; { simp only [Act.put, List.setIfInBounds_toArray, List.set_cons_zero, List.set_cons_succ, i64_w, i32_w]; rfl }
                          refine pure_ (i := 31) (N := some 116) (v := undef) (a' := ?_) (bl_ 33 4294967295) rfl rfl (any_of HT_.out (by kernel_rfl)) (fun _ _ _ h => h) (Or.inr ⟨by rfl, rfl⟩) ?_ ?_; rotate_left; { simp only [Act.put, List.setIfInBounds_toArray, List.set_cons_zero, List.set_cons_succ, i64_w, i32_w]; rfl }
                          refine pure_ (i := 32) (N := some 117) (v := ?_) (a' := ?_) (bl_ 33 8589934591) rfl rfl (any_of HT_.out (by kernel_rfl)) (fun _ _ _ h => h) (Or.inl ⟨by rfl, ?_⟩) ?_ ?_; rotate_left; { intro w'; go_simp; with_reducible rfl }; rotate_left; { simp only [Act.put, List.setIfInBounds_toArray, List.set_cons_zero, List.set_cons_succ, i64_w, i32_w]; rfl }
                          refine done_ (done_of HT_.out (by kernel_rfl)) ?_
                          try go_wp2
                          go_ret
                          exact ⟨by first | rfl | (simp [errW_none, errW_some, erT_no, erV_no, erT_at, erV_at] <;> rfl) | (simp only [← hji3]; first | rfl | (simp [errW_none, errW_some, erT_no, erV_no, erT_at, erV_at] <;> rfl)) | (simp [*, errW_none, errW_some, erT_no, erV_no, erT_at, erV_at] <;> rfl), by repeat (first | (with_reducible first | exact HB.out | apply below_alloc | apply pw_below_drewN | apply below_drew1 | refine below_set ?_ GE216.out) | exact HB.out)⟩
                        · rw [if_neg c35] at H
                          have c35b0 : decide (((rd_T64 t206 x80_2).f0) < x9_2) = false := decide_eq_false c35
                          clear c35
                          by_cases c40 : ((rd_T64 t206 x80_2).f1) < ((rd_T64 t206 x80_2).f0)
                          · rw [if_pos c40] at H
                            have c40b0 : decide (((rd_T64 t206 x80_2).f1) < ((rd_T64 t206 x80_2).f0)) = true := decide_eq_true c40
                            clear c40
                            obtain rfl := Option.some.inj H
                            have p215 : 0 ≤ (x80_2 : Int) := of_decide_eq_true (by first | (with_reducible assumption) | assumption)
                            have q215 : x80_2 < (t206.length : Int) := of_decide_eq_true (by first | (with_reducible assumption) | assumption)
                            obtain ⟨ad215, e215, hx215_0, hx215_1, hx215_2⟩ := at_T64 (Kd.R_reads' HO_78.out).2.2 x80_2 p215 q215
                            cases e215
                            replace p215 := eq_true p215
                            replace q215 := eq_true q215
                            try go_wp2_with (first | ((with_reducible refine gate_dst (N := 12) rfl ?_); (try (refine gate_guard (by rfl) ?_; dsimp only)); refine box_event ?hg (N := 12) ?hd (cs := #[.int .i64 0, .int .i64 0, .string (⟨#[]⟩ : ByteArray)]) (t := 64) ?hr ?_; (case hd => rfl); (case hg => rfl); (case hr => first | (go_simp; done) | (go_simp; rfl)); intro gb216 hg w41 hbox hb; have n0_ := Aside0.mk (Kd.R_below (Kd.R_elderB (by (with_reducible repeat (first | apply Kd.R_alloc | apply Kd.R_drewN | apply Kd.R_drew)); exact HO_1.out) gb216 (Nat.le_of_eq hg.symm)) hb); have n1_ := Aside0.mk (Kd.R_below (by (with_reducible repeat (first | apply Kd.R_alloc | apply Kd.R_drewN | apply Kd.R_drew)); exact HO_5.out) hb); have n2_ := Aside0.mk (Kd.R_below (by (with_reducible repeat (first | apply Kd.R_alloc | apply Kd.R_drewN | apply Kd.R_drew)); exact HO_10.out) hb); have n3_ := Aside0.mk (Kd.R_below (Kd.R_elderB (by (with_reducible repeat (first | apply Kd.R_alloc | apply Kd.R_drewN | apply Kd.R_drew)); exact HO_78.out) gb216 (Nat.le_of_eq hg.symm)) hb); have n4_ := Aside0.mk (below_step (by repeat (first | (with_reducible first | exact HB.out | apply below_alloc | apply pw_below_drewN | apply below_drew1) | exact HB.out)) hb); have n5_ := Aside0.mk (hbox); have n6_ := Aside0.mk ((by rw [hg]; exact (below_size (by repeat (first | (with_reducible first | exact HB.out | apply below_alloc | apply pw_below_drewN | apply below_drew1) | exact HB.out))) : w.heap.size ≤ gb216)); have n7_ := Aside0.mk ((by rw [hg]; exact (below_size (by repeat (first | (with_reducible first | exact HB.out | apply below_alloc | apply pw_below_drewN | apply below_drew1) | exact HB.out))) : w.heap.size ≤ gb216)); clear HO_1; clear HO_5; clear HO_10; clear HO_78; clear HB; have HO_1 := n0_; have HO_5 := n1_; have HO_10 := n2_; have HO_78 := n3_; have HB := n4_; have BK216 := n5_; have GW216 := n6_; have GE216 := n7_; clear n0_ n1_ n2_ n3_ n4_ n5_ n6_ n7_; clear hb hbox hg; have hcz42_0 : w41.cell? ⟨gb216, 0, none⟩ = some (.int .i64 0) := (blk_cell BK216.out 0).trans rfl; have hcz42_1 : w41.cell? ⟨gb216, 1, none⟩ = some (.int .i64 0) := (blk_cell BK216.out 1).trans rfl; have hcz42_2 : w41.cell? ⟨gb216, 2, none⟩ = some (.string (⟨#[]⟩ : ByteArray)) := (blk_cell BK216.out 2).trans rfl; have hfz42_0 := blk_frozen BK216.out 0; have hfz42_1 := blk_frozen BK216.out 1; have hfz42_2 := blk_frozen BK216.out 2))
                            have n0_ : Aside0 (Kd.R k64 64 (((w41.setCell ⟨gb216, 0, none⟩ (.int .i64 ((rd_T64 t206 x80_2).f0))).setCell ⟨gb216, 1, none⟩ (.int .i64 ((rd_T64 t206 x80_2).f1))).setCell ⟨gb216, 2, none⟩ (.string ((rd_T64 t206 x80_2).f2))) w.heap.size (fun k_ => some k_ ≠ (.slice (some ad215) t206.length co31 : Value).ownBlock ∧ k_ ≠ gb216) (.slice Ao13 t199.length co13) t199) := ⟨by (with_reducible repeat (first | apply Kd.R_alloc | apply Kd.R_drewN | apply Kd.R_drew)); exact Kd.R_mono (Kd.R_far (p := ⟨gb216, 2, none⟩) (Kd.R_far (p := ⟨gb216, 1, none⟩) (Kd.R_far (p := ⟨gb216, 0, none⟩) (Kd.R_mono HO_1.out (fun k_ hk => (⟨hk, hk.2⟩ : _ ∧ k_ ≠ gb216))) (fun _ hk => hk.2) (.int .i64 ((rd_T64 t206 x80_2).f0))) (fun _ hk => hk.2) (.int .i64 ((rd_T64 t206 x80_2).f1))) (fun _ hk => hk.2) (.string ((rd_T64 t206 x80_2).f2))) (fun _ hk => ⟨hk.1.1, hk.1.2⟩)⟩
                            have n1_ : Aside0 (Kd.R (Kd.int .u8) 5 (((w41.setCell ⟨gb216, 0, none⟩ (.int .i64 ((rd_T64 t206 x80_2).f0))).setCell ⟨gb216, 1, none⟩ (.int .i64 ((rd_T64 t206 x80_2).f1))).setCell ⟨gb216, 2, none⟩ (.string ((rd_T64 t206 x80_2).f2))) w.heap.size (fun k_ => some k_ ≠ (u10 : Value).ownBlock) v204 t202) := ⟨by (with_reducible repeat (first | apply Kd.R_alloc | apply Kd.R_drewN | apply Kd.R_drew)); exact Kd.R_mono (Kd.R_far (p := ⟨gb216, 2, none⟩) (Kd.R_far (p := ⟨gb216, 1, none⟩) (Kd.R_far (p := ⟨gb216, 0, none⟩) (Kd.R_types HO_5.out BK216.out (by decide)) (fun _ hk => hk.2) (.int .i64 ((rd_T64 t206 x80_2).f0))) (fun _ hk => hk.2) (.int .i64 ((rd_T64 t206 x80_2).f1))) (fun _ hk => hk.2) (.string ((rd_T64 t206 x80_2).f2))) (fun _ hk => hk.1)⟩
                            have n2_ : Aside0 (Kd.R (Kd.int .u8) 5 (((w41.setCell ⟨gb216, 0, none⟩ (.int .i64 ((rd_T64 t206 x80_2).f0))).setCell ⟨gb216, 1, none⟩ (.int .i64 ((rd_T64 t206 x80_2).f1))).setCell ⟨gb216, 2, none⟩ (.string ((rd_T64 t206 x80_2).f2))) w.heap.size (fun k_ => some k_ ≠ (v204 : Value).ownBlock) u10 x10_2) := ⟨by (with_reducible repeat (first | apply Kd.R_alloc | apply Kd.R_drewN | apply Kd.R_drew)); exact Kd.R_mono (Kd.R_far (p := ⟨gb216, 2, none⟩) (Kd.R_far (p := ⟨gb216, 1, none⟩) (Kd.R_far (p := ⟨gb216, 0, none⟩) (Kd.R_types HO_10.out BK216.out (by decide)) (fun _ hk => hk.2) (.int .i64 ((rd_T64 t206 x80_2).f0))) (fun _ hk => hk.2) (.int .i64 ((rd_T64 t206 x80_2).f1))) (fun _ hk => hk.2) (.string ((rd_T64 t206 x80_2).f2))) (fun _ hk => hk.1)⟩
                            have n3_ : Aside0 (Kd.R k64 64 (((w41.setCell ⟨gb216, 0, none⟩ (.int .i64 ((rd_T64 t206 x80_2).f0))).setCell ⟨gb216, 1, none⟩ (.int .i64 ((rd_T64 t206 x80_2).f1))).setCell ⟨gb216, 2, none⟩ (.string ((rd_T64 t206 x80_2).f2))) w.heap.size (fun k_ => some k_ ≠ (.slice Ao13 t199.length co13 : Value).ownBlock ∧ k_ ≠ gb216) (.slice (some ad215) t206.length co31) t206) := ⟨by (with_reducible repeat (first | apply Kd.R_alloc | apply Kd.R_drewN | apply Kd.R_drew)); exact Kd.R_mono (Kd.R_far (p := ⟨gb216, 2, none⟩) (Kd.R_far (p := ⟨gb216, 1, none⟩) (Kd.R_far (p := ⟨gb216, 0, none⟩) (Kd.R_mono HO_78.out (fun k_ hk => (⟨hk, hk.2⟩ : _ ∧ k_ ≠ gb216))) (fun _ hk => hk.2) (.int .i64 ((rd_T64 t206 x80_2).f0))) (fun _ hk => hk.2) (.int .i64 ((rd_T64 t206 x80_2).f1))) (fun _ hk => hk.2) (.string ((rd_T64 t206 x80_2).f2))) (fun _ hk => ⟨hk.1.1, hk.1.2⟩)⟩
                            have n4_ : Aside0 ((((w41.setCell ⟨gb216, 0, none⟩ (.int .i64 ((rd_T64 t206 x80_2).f0))).setCell ⟨gb216, 1, none⟩ (.int .i64 ((rd_T64 t206 x80_2).f1))).setCell ⟨gb216, 2, none⟩ (.string ((rd_T64 t206 x80_2).f2))).heap[gb216]? = some (.cells #[.int .i64 ((rd_T64 t206 x80_2).f0), .int .i64 ((rd_T64 t206 x80_2).f1), .string ((rd_T64 t206 x80_2).f2)] 64 (0, 0))) := ⟨by (with_reducible repeat (first | refine blk_drewN ?_ _ | refine blk_drew ?_ | refine blk_alloc ?_ _)); refine blk_put (cs := #[.int .i64 ((rd_T64 t206 x80_2).f0), .int .i64 ((rd_T64 t206 x80_2).f1), .string (⟨#[]⟩ : ByteArray)]) ?_ 2 _ rfl; (with_reducible repeat (first | refine blk_drewN ?_ _ | refine blk_drew ?_ | refine blk_alloc ?_ _)); refine blk_put (cs := #[.int .i64 ((rd_T64 t206 x80_2).f0), .int .i64 0, .string (⟨#[]⟩ : ByteArray)]) ?_ 1 _ rfl; (with_reducible repeat (first | refine blk_drewN ?_ _ | refine blk_drew ?_ | refine blk_alloc ?_ _)); refine blk_put (cs := #[.int .i64 0, .int .i64 0, .string (⟨#[]⟩ : ByteArray)]) ?_ 0 _ rfl; (with_reducible repeat (first | refine blk_drewN ?_ _ | refine blk_drew ?_ | refine blk_alloc ?_ _)); exact BK216.out⟩
                            have n5_ : Aside0 (Below w.heap.size w (((w41.setCell ⟨gb216, 0, none⟩ (.int .i64 ((rd_T64 t206 x80_2).f0))).setCell ⟨gb216, 1, none⟩ (.int .i64 ((rd_T64 t206 x80_2).f1))).setCell ⟨gb216, 2, none⟩ (.string ((rd_T64 t206 x80_2).f2)))) := ⟨by repeat (first | (with_reducible first | exact HB.out | apply below_alloc | apply pw_below_drewN | apply below_drew1 | refine below_set ?_ GE216.out) | exact HB.out)⟩
                            (try clear HO_1)
                            (try clear HO_5)
                            (try clear HO_10)
                            (try clear HO_78)
                            (try clear BK216)
                            (try clear HB)
                            generalize (((w41.setCell ⟨gb216, 0, none⟩ (.int .i64 ((rd_T64 t206 x80_2).f0))).setCell ⟨gb216, 1, none⟩ (.int .i64 ((rd_T64 t206 x80_2).f1))).setCell ⟨gb216, 2, none⟩ (.string ((rd_T64 t206 x80_2).f2))) = w43 at n0_ n1_ n2_ n3_ n4_ n5_ ⊢
                            have HO_1 := n0_
                            have HO_5 := n1_
                            have HO_10 := n2_
                            have HO_78 := n3_
                            have BK216 := n4_
                            have HB := n5_
                            clear n0_ n1_ n2_ n3_ n4_ n5_
                            have n0_ := Aside0.mk (Kd.R_drew HO_1.out)
                            have n1_ := Aside0.mk (Kd.R_drew HO_5.out)
                            have n2_ := Aside0.mk (Kd.R_drew HO_10.out)
                            have n3_ := Aside0.mk (Kd.R_drew HO_78.out)
                            have n4_ := Aside0.mk (blk_drew BK216.out)
                            have n5_ := Aside0.mk (below_drew1 HB.out)
                            clear HO_1
                            clear HO_5
                            clear HO_10
                            clear HO_78
                            clear BK216
                            clear HB
                            have HO_1 := n0_
                            have HO_5 := n1_
                            have HO_10 := n2_
                            have HO_78 := n3_
                            have BK216 := n4_
                            have HB := n5_
                            clear n0_ n1_ n2_ n3_ n4_ n5_
                            refine start_ (n := 33) (S := fun w' => w'.cell? ⟨gb216, 0, none⟩ = some (.int .i64 ((rd_T64 t206 x80_2).f0)) ∧ w'.cell? ⟨gb216, 1, none⟩ = some (.int .i64 ((rd_T64 t206 x80_2).f1)) ∧ w'.cell? ⟨gb216, 2, none⟩ = some (.string ((rd_T64 t206 x80_2).f2))) (ds := []) #[false, false, false, false, false, false, false, false, false, false, false, false, false, false, false, false, false, false, false, false, false, false, false, false, false, false, false, false, false, false, false, false, false] (by kernel_rfl) rfl rfl ⟨(blk_cell BK216.out 0).trans rfl, (blk_cell BK216.out 1).trans rfl, (blk_cell BK216.out 2).trans rfl⟩ (fun hHeld => ?_); refine with_tabW cavillaw04_EditBack.tab13 cavillaw04_EditBack.bits13 (fun HT_ HW_ => ?_)
                            generalize w43.drew = w44 at HO_1 HO_5 HO_10 HO_78 BK216 HB hHeld ⊢
                            refine pure_ (i := 0) (N := some 85) (v := ?_) (a' := ?_) (bl_ 33 1) rfl rfl (any_of HT_.out (by kernel_rfl)) (fun _ _ _ h => h) (Or.inl ⟨by rfl, ?_⟩) ?_ ?_; rotate_left; { intro w'; go_simp; with_reducible rfl }; rotate_left; { simp only [Act.put, List.setIfInBounds_toArray, List.set_cons_zero, List.set_cons_succ, i64_w, i32_w]; rfl }
                            refine pure_ (i := 2) (N := some 87) (v := ?_) (a' := ?_) (bl_ 33 5) rfl rfl (any_of HT_.out (by kernel_rfl)) (fun _ _ _ h => h) (Or.inl ⟨by rfl, ?_⟩) ?_ ?_; rotate_left; { intro w'; go_simp; with_reducible rfl }; rotate_left; { simp only [Act.put, List.setIfInBounds_toArray, List.set_cons_zero, List.set_cons_succ, i64_w, i32_w]; rfl }
                            refine take_ (i := 1) (N := some 86) (v := ?_) (a' := ?_) (bl_ 33 7) rfl rfl (take_ofW HT_.out HW_.out (by kernel_rfl)) (fun _ _ _ h => h) (Or.inl ⟨by rfl, ?_⟩) hHeld ?_ ?_; rotate_left; { rintro w' ⟨s0, s1, s2⟩; go_simp; with_reducible rfl }; rotate_left; { simp only [Act.put, List.setIfInBounds_toArray, List.set_cons_zero, List.set_cons_succ, i64_w, i32_w]; rfl }
                            refine pure_ (i := 3) (N := some 88) (v := ?_) (a' := ?_) (bl_ 33 15) rfl rfl (any_of HT_.out (by kernel_rfl)) (fun _ _ _ h => h) (Or.inl ⟨by rfl, ?_⟩) ?_ ?_; rotate_left; { intro w'; go_simp; with_reducible rfl }; rotate_left; { simp only [Act.put, List.setIfInBounds_toArray, List.set_cons_zero, List.set_cons_succ, i64_w, i32_w]; rfl }
                            refine pure_ (i := 4) (N := some 89) (v := ?_) (a' := ?_) (bl_ 33 31) rfl rfl (any_of HT_.out (by kernel_rfl)) (fun _ _ _ h => h) (Or.inl ⟨by rfl, ?_⟩) ?_ ?_; rotate_left; { intro w'; go_simp; with_reducible rfl }; rotate_left; { simp only [Act.put, List.setIfInBounds_toArray, List.set_cons_zero, List.set_cons_succ, i64_w, i32_w]; rfl }
                            refine pure_ (i := 5) (N := some 90) (v := ?_) (a' := ?_) (bl_ 33 63) rfl rfl (any_of HT_.out (by kernel_rfl)) (fun _ _ _ h => h) (Or.inl ⟨by rfl, ?_⟩) ?_ ?_; rotate_left; { intro w'; go_simp; with_reducible rfl }; rotate_left; { simp only [Act.put, List.setIfInBounds_toArray, List.set_cons_zero, List.set_cons_succ, i64_w, i32_w]; rfl }
                            refine pure_ (i := 7) (N := some 92) (v := ?_) (a' := ?_) (bl_ 33 191) rfl rfl (any_of HT_.out (by kernel_rfl)) (fun _ _ _ h => h) (Or.inl ⟨by rfl, ?_⟩) ?_ ?_; rotate_left; { intro w'; go_simp; with_reducible rfl }; rotate_left; { simp only [Act.put, List.setIfInBounds_toArray, List.set_cons_zero, List.set_cons_succ, i64_w, i32_w]; rfl }
                            refine take_ (i := 6) (N := some 91) (v := ?_) (a' := ?_) (bl_ 33 255) rfl rfl (take_ofW HT_.out HW_.out (by kernel_rfl)) (fun _ _ _ h => h) (Or.inl ⟨by rfl, ?_⟩) hHeld ?_ ?_; rotate_left; { rintro w' ⟨s0, s1, s2⟩; go_simp; with_reducible rfl }; rotate_left; { simp only [Act.put, List.setIfInBounds_toArray, List.set_cons_zero, List.set_cons_succ, i64_w, i32_w]; rfl }
                            refine take_ (i := 8) (N := some 93) (v := ?_) (a' := ?_) (bl_ 33 511) rfl rfl (take_ofW HT_.out HW_.out (by kernel_rfl)) (fun _ _ _ h => h) (Or.inl ⟨by rfl, ?_⟩) hHeld ?_ ?_; rotate_left; { rintro w' ⟨s0, s1, s2⟩; go_simp; with_reducible rfl }; rotate_left; { simp only [Act.put, List.setIfInBounds_toArray, List.set_cons_zero, List.set_cons_succ, i64_w, i32_w]; rfl }
                            refine pure_ (i := 9) (N := some 94) (v := ?_) (a' := ?_) (bl_ 33 1023) rfl rfl (any_of HT_.out (by kernel_rfl)) (fun _ _ _ h => h) (Or.inl ⟨by rfl, ?_⟩) ?_ ?_; rotate_left; { intro w'; go_simp; with_reducible rfl }; rotate_left; { simp only [Act.put, List.setIfInBounds_toArray, List.set_cons_zero, List.set_cons_succ, i64_w, i32_w]; rfl }
                            refine pure_ (i := 10) (N := some 95) (v := ?_) (a' := ?_) (bl_ 33 2047) rfl rfl (any_of HT_.out (by kernel_rfl)) (fun _ _ _ h => h) (Or.inl ⟨by rfl, ?_⟩) ?_ ?_; rotate_left; { intro w'; go_simp; with_reducible rfl }; rotate_left; { simp only [Act.put, List.setIfInBounds_toArray, List.set_cons_zero, List.set_cons_succ, i64_w, i32_w]; rfl }
                            refine pure_ (i := 11) (N := some 96) (v := ?_) (a' := ?_) (bl_ 33 4095) rfl rfl (any_of HT_.out (by kernel_rfl)) (fun _ _ _ h => h) (Or.inl ⟨by rfl, ?_⟩) ?_ ?_; rotate_left; { intro w'; go_simp; with_reducible rfl }; rotate_left; { simp only [Act.put, List.setIfInBounds_toArray, List.set_cons_zero, List.set_cons_succ, i64_w, i32_w]; rfl }
                            refine pure_ (i := 12) (N := some 97) (v := undef) (a' := ?_) (bl_ 33 8191) rfl rfl (any_of HT_.out (by kernel_rfl)) (fun _ _ _ h => h) (Or.inr ⟨by rfl, rfl⟩) ?_ ?_; rotate_left; { simp only [Act.put, List.setIfInBounds_toArray, List.set_cons_zero, List.set_cons_succ, i64_w, i32_w]; rfl }
                            refine pure_ (i := 13) (N := some 98) (v := undef) (a' := ?_) (bl_ 33 16383) rfl rfl (any_of HT_.out (by kernel_rfl)) (fun _ _ _ h => h) (Or.inr ⟨by rfl, rfl⟩) ?_ ?_; rotate_left; { simp only [Act.put, List.setIfInBounds_toArray, List.set_cons_zero, List.set_cons_succ, i64_w, i32_w]; rfl }
                            refine pure_ (i := 14) (N := some 99) (v := undef) (a' := ?_) (bl_ 33 32767) rfl rfl (any_of HT_.out (by kernel_rfl)) (fun _ _ _ h => h) (Or.inr ⟨by rfl, rfl⟩) ?_ ?_; rotate_left; { simp only [Act.put, List.setIfInBounds_toArray, List.set_cons_zero, List.set_cons_succ, i64_w, i32_w]; rfl }
                            refine pure_ (i := 15) (N := some 100) (v := undef) (a' := ?_) (bl_ 33 65535) rfl rfl (any_of HT_.out (by kernel_rfl)) (fun _ _ _ h => h) (Or.inr ⟨by rfl, rfl⟩) ?_ ?_; rotate_left; { simp only [Act.put, List.setIfInBounds_toArray, List.set_cons_zero, List.set_cons_succ, i64_w, i32_w]; rfl }
                            refine pure_ (i := 16) (N := some 101) (v := undef) (a' := ?_) (bl_ 33 131071) rfl rfl (any_of HT_.out (by kernel_rfl)) (fun _ _ _ h => h) (Or.inr ⟨by rfl, rfl⟩) ?_ ?_; rotate_left; { simp only [Act.put, List.setIfInBounds_toArray, List.set_cons_zero, List.set_cons_succ, i64_w, i32_w]; rfl }
                            refine pure_ (i := 17) (N := some 102) (v := ?_) (a' := ?_) (bl_ 33 262143) rfl rfl (any_of HT_.out (by kernel_rfl)) (fun _ _ _ h => h) (Or.inl ⟨by rfl, ?_⟩) ?_ ?_; rotate_left; { intro w'; go_simp; with_reducible rfl }; rotate_left; { simp only [Act.put, List.setIfInBounds_toArray, List.set_cons_zero, List.set_cons_succ, i64_w, i32_w]; rfl }
                            refine pure_ (i := 18) (N := some 103) (v := ?_) (a' := ?_) (bl_ 33 524287) rfl rfl (any_of HT_.out (by kernel_rfl)) (fun _ _ _ h => h) (Or.inl ⟨by rfl, ?_⟩) ?_ ?_; rotate_left; { intro w'; go_simp; with_reducible rfl }; rotate_left; { simp only [Act.put, List.setIfInBounds_toArray, List.set_cons_zero, List.set_cons_succ, i64_w, i32_w]; rfl }
                            refine pure_ (i := 19) (N := some 104) (v := undef) (a' := ?_) (bl_ 33 1048575) rfl rfl (any_of HT_.out (by kernel_rfl)) (fun _ _ _ h => h) (Or.inr ⟨by rfl, rfl⟩) ?_ ?_; rotate_left; { simp only [Act.put, List.setIfInBounds_toArray, List.set_cons_zero, List.set_cons_succ, i64_w, i32_w]; rfl }
                            refine pure_ (i := 20) (N := some 105) (v := undef) (a' := ?_) (bl_ 33 2097151) rfl rfl (any_of HT_.out (by kernel_rfl)) (fun _ _ _ h => h) (Or.inr ⟨by rfl, rfl⟩) ?_ ?_; rotate_left; { simp only [Act.put, List.setIfInBounds_toArray, List.set_cons_zero, List.set_cons_succ, i64_w, i32_w]; rfl }
                            refine pure_ (i := 21) (N := some 106) (v := undef) (a' := ?_) (bl_ 33 4194303) rfl rfl (any_of HT_.out (by kernel_rfl)) (fun _ _ _ h => h) (Or.inr ⟨by rfl, rfl⟩) ?_ ?_; rotate_left; { simp only [Act.put, List.setIfInBounds_toArray, List.set_cons_zero, List.set_cons_succ, i64_w, i32_w]; rfl }
                            refine pure_ (i := 22) (N := some 107) (v := undef) (a' := ?_) (bl_ 33 8388607) rfl rfl (any_of HT_.out (by kernel_rfl)) (fun _ _ _ h => h) (Or.inr ⟨by rfl, rfl⟩) ?_ ?_; rotate_left; { simp only [Act.put, List.setIfInBounds_toArray, List.set_cons_zero, List.set_cons_succ, i64_w, i32_w]; rfl }
                            refine pure_ (i := 23) (N := some 108) (v := undef) (a' := ?_) (bl_ 33 16777215) rfl rfl (any_of HT_.out (by kernel_rfl)) (fun _ _ _ h => h) (Or.inr ⟨by rfl, rfl⟩) ?_ ?_; rotate_left; { simp only [Act.put, List.setIfInBounds_toArray, List.set_cons_zero, List.set_cons_succ, i64_w, i32_w]; rfl }
                            refine pure_ (i := 24) (N := some 109) (v := undef) (a' := ?_) (bl_ 33 33554431) rfl rfl (any_of HT_.out (by kernel_rfl)) (fun _ _ _ h => h) (Or.inr ⟨by rfl, rfl⟩) ?_ ?_; rotate_left; { simp only [Act.put, List.setIfInBounds_toArray, List.set_cons_zero, List.set_cons_succ, i64_w, i32_w]; rfl }
                            refine pure_ (i := 25) (N := some 110) (v := undef) (a' := ?_) (bl_ 33 67108863) rfl rfl (any_of HT_.out (by kernel_rfl)) (fun _ _ _ h => h) (Or.inr ⟨by rfl, rfl⟩) ?_ ?_; rotate_left; { simp only [Act.put, List.setIfInBounds_toArray, List.set_cons_zero, List.set_cons_succ, i64_w, i32_w]; rfl }
                            refine pure_ (i := 26) (N := some 111) (v := undef) (a' := ?_) (bl_ 33 134217727) rfl rfl (any_of HT_.out (by kernel_rfl)) (fun _ _ _ h => h) (Or.inr ⟨by rfl, rfl⟩) ?_ ?_; rotate_left; { simp only [Act.put, List.setIfInBounds_toArray, List.set_cons_zero, List.set_cons_succ, i64_w, i32_w]; rfl }
                            refine pure_ (i := 27) (N := some 112) (v := undef) (a' := ?_) (bl_ 33 268435455) rfl rfl (any_of HT_.out (by kernel_rfl)) (fun _ _ _ h => h) (Or.inr ⟨by rfl, rfl⟩) ?_ ?_; rotate_left; { simp only [Act.put, List.setIfInBounds_toArray, List.set_cons_zero, List.set_cons_succ, i64_w, i32_w]; rfl }
                            refine pure_ (i := 28) (N := some 113) (v := undef) (a' := ?_) (bl_ 33 536870911) rfl rfl (any_of HT_.out (by kernel_rfl)) (fun _ _ _ h => h) (Or.inr ⟨by rfl, rfl⟩) ?_ ?_; rotate_left; { simp only [Act.put, List.setIfInBounds_toArray, List.set_cons_zero, List.set_cons_succ, i64_w, i32_w]; rfl }
                            refine pure_ (i := 29) (N := some 114) (v := undef) (a' := ?_) (bl_ 33 1073741823) rfl rfl (any_of HT_.out (by kernel_rfl)) (fun _ _ _ h => h) (Or.inr ⟨by rfl, rfl⟩) ?_ ?_; rotate_left; { simp only [Act.put, List.setIfInBounds_toArray, List.set_cons_zero, List.set_cons_succ, i64_w, i32_w]; rfl }
                            refine pure_ (i := 30) (N := some 115) (v := undef) (a' := ?_) (bl_ 33 2147483647) rfl rfl (any_of HT_.out (by kernel_rfl)) (fun _ _ _ h => h) (Or.inr ⟨by rfl, rfl⟩) ?_ ?_; rotate_left; { simp only [Act.put, List.setIfInBounds_toArray, List.set_cons_zero, List.set_cons_succ, i64_w, i32_w]; rfl }
                            refine pure_ (i := 31) (N := some 116) (v := undef) (a' := ?_) (bl_ 33 4294967295) rfl rfl (any_of HT_.out (by kernel_rfl)) (fun _ _ _ h => h) (Or.inr ⟨by rfl, rfl⟩) ?_ ?_; rotate_left; { simp only [Act.put, List.setIfInBounds_toArray, List.set_cons_zero, List.set_cons_succ, i64_w, i32_w]; rfl }
                            refine pure_ (i := 32) (N := some 117) (v := ?_) (a' := ?_) (bl_ 33 8589934591) rfl rfl (any_of HT_.out (by kernel_rfl)) (fun _ _ _ h => h) (Or.inl ⟨by rfl, ?_⟩) ?_ ?_; rotate_left; { intro w'; go_simp; with_reducible rfl }; rotate_left; { simp only [Act.put, List.setIfInBounds_toArray, List.set_cons_zero, List.set_cons_succ, i64_w, i32_w]; rfl }
                            refine done_ (done_of HT_.out (by kernel_rfl)) ?_
                            try go_wp2
                            go_ret
                            exact ⟨by first | rfl | (simp [errW_none, errW_some, erT_no, erV_no, erT_at, erV_at] <;> rfl) | (simp only [← hji3]; first | rfl | (simp [errW_none, errW_some, erT_no, erV_no, erT_at, erV_at] <;> rfl)) | (simp [*, errW_none, errW_some, erT_no, erV_no, erT_at, erV_at] <;> rfl), by repeat (first | (with_reducible first | exact HB.out | apply below_alloc | apply pw_below_drewN | apply below_drew1 | refine below_set ?_ GE216.out) | exact HB.out)⟩
                          · rw [if_neg c40] at H
                            have c40b0 : decide (((rd_T64 t206 x80_2).f1) < ((rd_T64 t206 x80_2).f0)) = false := decide_eq_false c40
                            clear c40
                            by_cases c45 : ((rd_T64 t206 x80_2).f1) > (t202.length : Int)
                            · rw [if_pos c45] at H
                              have c45b0 : decide ((t202.length : Int) < ((rd_T64 t206 x80_2).f1)) = true := decide_eq_true c45
                              clear c45
                              obtain rfl := Option.some.inj H
                              have p215 : 0 ≤ (x80_2 : Int) := of_decide_eq_true (by first | (with_reducible assumption) | assumption)
                              have q215 : x80_2 < (t206.length : Int) := of_decide_eq_true (by first | (with_reducible assumption) | assumption)
                              obtain ⟨ad215, e215, hx215_0, hx215_1, hx215_2⟩ := at_T64 (Kd.R_reads' HO_78.out).2.2 x80_2 p215 q215
                              cases e215
                              replace p215 := eq_true p215
                              replace q215 := eq_true q215
                              try go_wp2_with (first | ((with_reducible refine gate_dst (N := 12) rfl ?_); (try (refine gate_guard (by rfl) ?_; dsimp only)); refine box_event ?hg (N := 12) ?hd (cs := #[.int .i64 0, .int .i64 0, .string (⟨#[]⟩ : ByteArray)]) (t := 64) ?hr ?_; (case hd => rfl); (case hg => rfl); (case hr => first | (go_simp; done) | (go_simp; rfl)); intro gb216 hg w46 hbox hb; have n0_ := Aside0.mk (Kd.R_below (Kd.R_elderB (by (with_reducible repeat (first | apply Kd.R_alloc | apply Kd.R_drewN | apply Kd.R_drew)); exact HO_1.out) gb216 (Nat.le_of_eq hg.symm)) hb); have n1_ := Aside0.mk (Kd.R_below (by (with_reducible repeat (first | apply Kd.R_alloc | apply Kd.R_drewN | apply Kd.R_drew)); exact HO_5.out) hb); have n2_ := Aside0.mk (Kd.R_below (by (with_reducible repeat (first | apply Kd.R_alloc | apply Kd.R_drewN | apply Kd.R_drew)); exact HO_10.out) hb); have n3_ := Aside0.mk (Kd.R_below (Kd.R_elderB (by (with_reducible repeat (first | apply Kd.R_alloc | apply Kd.R_drewN | apply Kd.R_drew)); exact HO_78.out) gb216 (Nat.le_of_eq hg.symm)) hb); have n4_ := Aside0.mk (below_step (by repeat (first | (with_reducible first | exact HB.out | apply below_alloc | apply pw_below_drewN | apply below_drew1) | exact HB.out)) hb); have n5_ := Aside0.mk (hbox); have n6_ := Aside0.mk ((by rw [hg]; exact (below_size (by repeat (first | (with_reducible first | exact HB.out | apply below_alloc | apply pw_below_drewN | apply below_drew1) | exact HB.out))) : w.heap.size ≤ gb216)); have n7_ := Aside0.mk ((by rw [hg]; exact (below_size (by repeat (first | (with_reducible first | exact HB.out | apply below_alloc | apply pw_below_drewN | apply below_drew1) | exact HB.out))) : w.heap.size ≤ gb216)); clear HO_1; clear HO_5; clear HO_10; clear HO_78; clear HB; have HO_1 := n0_; have HO_5 := n1_; have HO_10 := n2_; have HO_78 := n3_; have HB := n4_; have BK216 := n5_; have GW216 := n6_; have GE216 := n7_; clear n0_ n1_ n2_ n3_ n4_ n5_ n6_ n7_; clear hb hbox hg; have hcz47_0 : w46.cell? ⟨gb216, 0, none⟩ = some (.int .i64 0) := (blk_cell BK216.out 0).trans rfl; have hcz47_1 : w46.cell? ⟨gb216, 1, none⟩ = some (.int .i64 0) := (blk_cell BK216.out 1).trans rfl; have hcz47_2 : w46.cell? ⟨gb216, 2, none⟩ = some (.string (⟨#[]⟩ : ByteArray)) := (blk_cell BK216.out 2).trans rfl; have hfz47_0 := blk_frozen BK216.out 0; have hfz47_1 := blk_frozen BK216.out 1; have hfz47_2 := blk_frozen BK216.out 2))
                              have n0_ : Aside0 (Kd.R k64 64 (((w46.setCell ⟨gb216, 0, none⟩ (.int .i64 ((rd_T64 t206 x80_2).f0))).setCell ⟨gb216, 1, none⟩ (.int .i64 ((rd_T64 t206 x80_2).f1))).setCell ⟨gb216, 2, none⟩ (.string ((rd_T64 t206 x80_2).f2))) w.heap.size (fun k_ => some k_ ≠ (.slice (some ad215) t206.length co31 : Value).ownBlock ∧ k_ ≠ gb216) (.slice Ao13 t199.length co13) t199) := ⟨by (with_reducible repeat (first | apply Kd.R_alloc | apply Kd.R_drewN | apply Kd.R_drew)); exact Kd.R_mono (Kd.R_far (p := ⟨gb216, 2, none⟩) (Kd.R_far (p := ⟨gb216, 1, none⟩) (Kd.R_far (p := ⟨gb216, 0, none⟩) (Kd.R_mono HO_1.out (fun k_ hk => (⟨hk, hk.2⟩ : _ ∧ k_ ≠ gb216))) (fun _ hk => hk.2) (.int .i64 ((rd_T64 t206 x80_2).f0))) (fun _ hk => hk.2) (.int .i64 ((rd_T64 t206 x80_2).f1))) (fun _ hk => hk.2) (.string ((rd_T64 t206 x80_2).f2))) (fun _ hk => ⟨hk.1.1, hk.1.2⟩)⟩
                              have n1_ : Aside0 (Kd.R (Kd.int .u8) 5 (((w46.setCell ⟨gb216, 0, none⟩ (.int .i64 ((rd_T64 t206 x80_2).f0))).setCell ⟨gb216, 1, none⟩ (.int .i64 ((rd_T64 t206 x80_2).f1))).setCell ⟨gb216, 2, none⟩ (.string ((rd_T64 t206 x80_2).f2))) w.heap.size (fun k_ => some k_ ≠ (u10 : Value).ownBlock) v204 t202) := ⟨by (with_reducible repeat (first | apply Kd.R_alloc | apply Kd.R_drewN | apply Kd.R_drew)); exact Kd.R_mono (Kd.R_far (p := ⟨gb216, 2, none⟩) (Kd.R_far (p := ⟨gb216, 1, none⟩) (Kd.R_far (p := ⟨gb216, 0, none⟩) (Kd.R_types HO_5.out BK216.out (by decide)) (fun _ hk => hk.2) (.int .i64 ((rd_T64 t206 x80_2).f0))) (fun _ hk => hk.2) (.int .i64 ((rd_T64 t206 x80_2).f1))) (fun _ hk => hk.2) (.string ((rd_T64 t206 x80_2).f2))) (fun _ hk => hk.1)⟩
                              have n2_ : Aside0 (Kd.R (Kd.int .u8) 5 (((w46.setCell ⟨gb216, 0, none⟩ (.int .i64 ((rd_T64 t206 x80_2).f0))).setCell ⟨gb216, 1, none⟩ (.int .i64 ((rd_T64 t206 x80_2).f1))).setCell ⟨gb216, 2, none⟩ (.string ((rd_T64 t206 x80_2).f2))) w.heap.size (fun k_ => some k_ ≠ (v204 : Value).ownBlock) u10 x10_2) := ⟨by (with_reducible repeat (first | apply Kd.R_alloc | apply Kd.R_drewN | apply Kd.R_drew)); exact Kd.R_mono (Kd.R_far (p := ⟨gb216, 2, none⟩) (Kd.R_far (p := ⟨gb216, 1, none⟩) (Kd.R_far (p := ⟨gb216, 0, none⟩) (Kd.R_types HO_10.out BK216.out (by decide)) (fun _ hk => hk.2) (.int .i64 ((rd_T64 t206 x80_2).f0))) (fun _ hk => hk.2) (.int .i64 ((rd_T64 t206 x80_2).f1))) (fun _ hk => hk.2) (.string ((rd_T64 t206 x80_2).f2))) (fun _ hk => hk.1)⟩
                              have n3_ : Aside0 (Kd.R k64 64 (((w46.setCell ⟨gb216, 0, none⟩ (.int .i64 ((rd_T64 t206 x80_2).f0))).setCell ⟨gb216, 1, none⟩ (.int .i64 ((rd_T64 t206 x80_2).f1))).setCell ⟨gb216, 2, none⟩ (.string ((rd_T64 t206 x80_2).f2))) w.heap.size (fun k_ => some k_ ≠ (.slice Ao13 t199.length co13 : Value).ownBlock ∧ k_ ≠ gb216) (.slice (some ad215) t206.length co31) t206) := ⟨by (with_reducible repeat (first | apply Kd.R_alloc | apply Kd.R_drewN | apply Kd.R_drew)); exact Kd.R_mono (Kd.R_far (p := ⟨gb216, 2, none⟩) (Kd.R_far (p := ⟨gb216, 1, none⟩) (Kd.R_far (p := ⟨gb216, 0, none⟩) (Kd.R_mono HO_78.out (fun k_ hk => (⟨hk, hk.2⟩ : _ ∧ k_ ≠ gb216))) (fun _ hk => hk.2) (.int .i64 ((rd_T64 t206 x80_2).f0))) (fun _ hk => hk.2) (.int .i64 ((rd_T64 t206 x80_2).f1))) (fun _ hk => hk.2) (.string ((rd_T64 t206 x80_2).f2))) (fun _ hk => ⟨hk.1.1, hk.1.2⟩)⟩
                              have n4_ : Aside0 ((((w46.setCell ⟨gb216, 0, none⟩ (.int .i64 ((rd_T64 t206 x80_2).f0))).setCell ⟨gb216, 1, none⟩ (.int .i64 ((rd_T64 t206 x80_2).f1))).setCell ⟨gb216, 2, none⟩ (.string ((rd_T64 t206 x80_2).f2))).heap[gb216]? = some (.cells #[.int .i64 ((rd_T64 t206 x80_2).f0), .int .i64 ((rd_T64 t206 x80_2).f1), .string ((rd_T64 t206 x80_2).f2)] 64 (0, 0))) := ⟨by (with_reducible repeat (first | refine blk_drewN ?_ _ | refine blk_drew ?_ | refine blk_alloc ?_ _)); refine blk_put (cs := #[.int .i64 ((rd_T64 t206 x80_2).f0), .int .i64 ((rd_T64 t206 x80_2).f1), .string (⟨#[]⟩ : ByteArray)]) ?_ 2 _ rfl; (with_reducible repeat (first | refine blk_drewN ?_ _ | refine blk_drew ?_ | refine blk_alloc ?_ _)); refine blk_put (cs := #[.int .i64 ((rd_T64 t206 x80_2).f0), .int .i64 0, .string (⟨#[]⟩ : ByteArray)]) ?_ 1 _ rfl; (with_reducible repeat (first | refine blk_drewN ?_ _ | refine blk_drew ?_ | refine blk_alloc ?_ _)); refine blk_put (cs := #[.int .i64 0, .int .i64 0, .string (⟨#[]⟩ : ByteArray)]) ?_ 0 _ rfl; (with_reducible repeat (first | refine blk_drewN ?_ _ | refine blk_drew ?_ | refine blk_alloc ?_ _)); exact BK216.out⟩
                              have n5_ : Aside0 (Below w.heap.size w (((w46.setCell ⟨gb216, 0, none⟩ (.int .i64 ((rd_T64 t206 x80_2).f0))).setCell ⟨gb216, 1, none⟩ (.int .i64 ((rd_T64 t206 x80_2).f1))).setCell ⟨gb216, 2, none⟩ (.string ((rd_T64 t206 x80_2).f2)))) := ⟨by repeat (first | (with_reducible first | exact HB.out | apply below_alloc | apply pw_below_drewN | apply below_drew1 | refine below_set ?_ GE216.out) | exact HB.out)⟩
                              (try clear HO_1)
                              (try clear HO_5)
                              (try clear HO_10)
                              (try clear HO_78)
                              (try clear BK216)
                              (try clear HB)
                              generalize (((w46.setCell ⟨gb216, 0, none⟩ (.int .i64 ((rd_T64 t206 x80_2).f0))).setCell ⟨gb216, 1, none⟩ (.int .i64 ((rd_T64 t206 x80_2).f1))).setCell ⟨gb216, 2, none⟩ (.string ((rd_T64 t206 x80_2).f2))) = w48 at n0_ n1_ n2_ n3_ n4_ n5_ ⊢
                              have HO_1 := n0_
                              have HO_5 := n1_
                              have HO_10 := n2_
                              have HO_78 := n3_
                              have BK216 := n4_
                              have HB := n5_
                              clear n0_ n1_ n2_ n3_ n4_ n5_
                              have n0_ := Aside0.mk (Kd.R_drew HO_1.out)
                              have n1_ := Aside0.mk (Kd.R_drew HO_5.out)
                              have n2_ := Aside0.mk (Kd.R_drew HO_10.out)
                              have n3_ := Aside0.mk (Kd.R_drew HO_78.out)
                              have n4_ := Aside0.mk (blk_drew BK216.out)
                              have n5_ := Aside0.mk (below_drew1 HB.out)
                              clear HO_1
                              clear HO_5
                              clear HO_10
                              clear HO_78
                              clear BK216
                              clear HB
                              have HO_1 := n0_
                              have HO_5 := n1_
                              have HO_10 := n2_
                              have HO_78 := n3_
                              have BK216 := n4_
                              have HB := n5_
                              clear n0_ n1_ n2_ n3_ n4_ n5_
                              obtain ⟨Ao50, co50, eo50⟩ := Kd.R_slice HO_5.out
                              (first | subst eo50 | (injection eo50 with f1_ f2_ f3_; have f4_ := f1_.symm; have f5_ := f3_.symm; clear f1_ f2_ f3_; subst f4_; subst f5_))
                              refine start_ (n := 33) (S := fun w' => w'.cell? ⟨gb216, 0, none⟩ = some (.int .i64 ((rd_T64 t206 x80_2).f0)) ∧ w'.cell? ⟨gb216, 1, none⟩ = some (.int .i64 ((rd_T64 t206 x80_2).f1)) ∧ w'.cell? ⟨gb216, 2, none⟩ = some (.string ((rd_T64 t206 x80_2).f2))) (ds := []) #[false, false, false, false, false, false, false, false, false, false, false, false, false, false, false, false, false, false, false, false, false, false, false, false, false, false, false, false, false, false, false, false, false] (by kernel_rfl) rfl rfl ⟨(blk_cell BK216.out 0).trans rfl, (blk_cell BK216.out 1).trans rfl, (blk_cell BK216.out 2).trans rfl⟩ (fun hHeld => ?_); refine with_tabW cavillaw04_EditBack.tab13 cavillaw04_EditBack.bits13 (fun HT_ HW_ => ?_)
                              generalize w48.drew = w49 at HO_1 HO_5 HO_10 HO_78 BK216 HB hHeld ⊢
                              refine pure_ (i := 0) (N := some 85) (v := ?_) (a' := ?_) (bl_ 33 1) rfl rfl (any_of HT_.out (by kernel_rfl)) (fun _ _ _ h => h) (Or.inl ⟨by rfl, ?_⟩) ?_ ?_; rotate_left; { intro w'; go_simp; with_reducible rfl }; rotate_left; { simp only [Act.put, List.setIfInBounds_toArray, List.set_cons_zero, List.set_cons_succ, i64_w, i32_w]; rfl }
                              refine pure_ (i := 2) (N := some 87) (v := ?_) (a' := ?_) (bl_ 33 5) rfl rfl (any_of HT_.out (by kernel_rfl)) (fun _ _ _ h => h) (Or.inl ⟨by rfl, ?_⟩) ?_ ?_; rotate_left; { intro w'; go_simp; with_reducible rfl }; rotate_left; { simp only [Act.put, List.setIfInBounds_toArray, List.set_cons_zero, List.set_cons_succ, i64_w, i32_w]; rfl }
                              refine take_ (i := 1) (N := some 86) (v := ?_) (a' := ?_) (bl_ 33 7) rfl rfl (take_ofW HT_.out HW_.out (by kernel_rfl)) (fun _ _ _ h => h) (Or.inl ⟨by rfl, ?_⟩) hHeld ?_ ?_; rotate_left; { rintro w' ⟨s0, s1, s2⟩; go_simp; with_reducible rfl }; rotate_left; { simp only [Act.put, List.setIfInBounds_toArray, List.set_cons_zero, List.set_cons_succ, i64_w, i32_w]; rfl }
                              refine pure_ (i := 3) (N := some 88) (v := ?_) (a' := ?_) (bl_ 33 15) rfl rfl (any_of HT_.out (by kernel_rfl)) (fun _ _ _ h => h) (Or.inl ⟨by rfl, ?_⟩) ?_ ?_; rotate_left; { intro w'; go_simp; with_reducible rfl }; rotate_left; { simp only [Act.put, List.setIfInBounds_toArray, List.set_cons_zero, List.set_cons_succ, i64_w, i32_w]; rfl }
                              refine pure_ (i := 4) (N := some 89) (v := ?_) (a' := ?_) (bl_ 33 31) rfl rfl (any_of HT_.out (by kernel_rfl)) (fun _ _ _ h => h) (Or.inl ⟨by rfl, ?_⟩) ?_ ?_; rotate_left; { intro w'; go_simp; with_reducible rfl }; rotate_left; { simp only [Act.put, List.setIfInBounds_toArray, List.set_cons_zero, List.set_cons_succ, i64_w, i32_w]; rfl }
                              refine pure_ (i := 5) (N := some 90) (v := ?_) (a' := ?_) (bl_ 33 63) rfl rfl (any_of HT_.out (by kernel_rfl)) (fun _ _ _ h => h) (Or.inl ⟨by rfl, ?_⟩) ?_ ?_; rotate_left; { intro w'; go_simp; with_reducible rfl }; rotate_left; { simp only [Act.put, List.setIfInBounds_toArray, List.set_cons_zero, List.set_cons_succ, i64_w, i32_w]; rfl }
                              refine pure_ (i := 7) (N := some 92) (v := ?_) (a' := ?_) (bl_ 33 191) rfl rfl (any_of HT_.out (by kernel_rfl)) (fun _ _ _ h => h) (Or.inl ⟨by rfl, ?_⟩) ?_ ?_; rotate_left; { intro w'; go_simp; with_reducible rfl }; rotate_left; { simp only [Act.put, List.setIfInBounds_toArray, List.set_cons_zero, List.set_cons_succ, i64_w, i32_w]; rfl }
                              refine take_ (i := 6) (N := some 91) (v := ?_) (a' := ?_) (bl_ 33 255) rfl rfl (take_ofW HT_.out HW_.out (by kernel_rfl)) (fun _ _ _ h => h) (Or.inl ⟨by rfl, ?_⟩) hHeld ?_ ?_; rotate_left; { rintro w' ⟨s0, s1, s2⟩; go_simp; with_reducible rfl }; rotate_left; { simp only [Act.put, List.setIfInBounds_toArray, List.set_cons_zero, List.set_cons_succ, i64_w, i32_w]; rfl }
                              refine take_ (i := 8) (N := some 93) (v := ?_) (a' := ?_) (bl_ 33 511) rfl rfl (take_ofW HT_.out HW_.out (by kernel_rfl)) (fun _ _ _ h => h) (Or.inl ⟨by rfl, ?_⟩) hHeld ?_ ?_; rotate_left; { rintro w' ⟨s0, s1, s2⟩; go_simp; with_reducible rfl }; rotate_left; { simp only [Act.put, List.setIfInBounds_toArray, List.set_cons_zero, List.set_cons_succ, i64_w, i32_w]; rfl }
                              refine pure_ (i := 9) (N := some 94) (v := ?_) (a' := ?_) (bl_ 33 1023) rfl rfl (any_of HT_.out (by kernel_rfl)) (fun _ _ _ h => h) (Or.inl ⟨by rfl, ?_⟩) ?_ ?_; rotate_left; { intro w'; go_simp; with_reducible rfl }; rotate_left; { simp only [Act.put, List.setIfInBounds_toArray, List.set_cons_zero, List.set_cons_succ, i64_w, i32_w]; rfl }
                              refine pure_ (i := 10) (N := some 95) (v := ?_) (a' := ?_) (bl_ 33 2047) rfl rfl (any_of HT_.out (by kernel_rfl)) (fun _ _ _ h => h) (Or.inl ⟨by rfl, ?_⟩) ?_ ?_; rotate_left; { intro w'; go_simp; with_reducible rfl }; rotate_left; { simp only [Act.put, List.setIfInBounds_toArray, List.set_cons_zero, List.set_cons_succ, i64_w, i32_w]; rfl }
                              refine pure_ (i := 11) (N := some 96) (v := ?_) (a' := ?_) (bl_ 33 4095) rfl rfl (any_of HT_.out (by kernel_rfl)) (fun _ _ _ h => h) (Or.inl ⟨by rfl, ?_⟩) ?_ ?_; rotate_left; { intro w'; go_simp; with_reducible rfl }; rotate_left; { simp only [Act.put, List.setIfInBounds_toArray, List.set_cons_zero, List.set_cons_succ, i64_w, i32_w]; rfl }
                              refine pure_ (i := 12) (N := some 97) (v := ?_) (a' := ?_) (bl_ 33 8191) rfl rfl (any_of HT_.out (by kernel_rfl)) (fun _ _ _ h => h) (Or.inl ⟨by rfl, ?_⟩) ?_ ?_; rotate_left; { intro w'; go_simp; with_reducible rfl }; rotate_left; { simp only [Act.put, List.setIfInBounds_toArray, List.set_cons_zero, List.set_cons_succ, i64_w, i32_w]; rfl }
                              refine pure_ (i := 14) (N := some 99) (v := ?_) (a' := ?_) (bl_ 33 24575) rfl rfl (any_of HT_.out (by kernel_rfl)) (fun _ _ _ h => h) (Or.inl ⟨by rfl, ?_⟩) ?_ ?_; rotate_left; { intro w'; go_simp; with_reducible rfl }; rotate_left; { simp only [Act.put, List.setIfInBounds_toArray, List.set_cons_zero, List.set_cons_succ, i64_w, i32_w]; rfl }
                              refine pure_ (i := 15) (N := some 100) (v := ?_) (a' := ?_) (bl_ 33 57343) rfl rfl (any_of HT_.out (by kernel_rfl)) (fun _ _ _ h => h) (Or.inl ⟨by rfl, ?_⟩) ?_ ?_; rotate_left; { intro w'; go_simp; with_reducible rfl }; rotate_left; { simp only [Act.put, List.setIfInBounds_toArray, List.set_cons_zero, List.set_cons_succ, i64_w, i32_w]; rfl }
                              refine take_ (i := 13) (N := some 98) (v := ?_) (a' := ?_) (bl_ 33 65535) rfl rfl (take_ofW HT_.out HW_.out (by kernel_rfl)) (fun _ _ _ h => h) (Or.inl ⟨by rfl, ?_⟩) hHeld ?_ ?_; rotate_left; { rintro w' ⟨s0, s1, s2⟩; go_simp; with_reducible rfl }; rotate_left; { simp only [Act.put, List.setIfInBounds_toArray, List.set_cons_zero, List.set_cons_succ, i64_w, i32_w]; rfl }
                              refine pure_ (i := 16) (N := some 101) (v := ?_) (a' := ?_) (bl_ 33 131071) rfl rfl (any_of HT_.out (by kernel_rfl)) (fun _ _ _ h => h) (Or.inl ⟨by rfl, ?_⟩) ?_ ?_; rotate_left; { intro w'; go_simp; with_reducible rfl }; rotate_left; { simp only [Act.put, List.setIfInBounds_toArray, List.set_cons_zero, List.set_cons_succ, i64_w, i32_w]; rfl }
                              refine pure_ (i := 17) (N := some 102) (v := ?_) (a' := ?_) (bl_ 33 262143) rfl rfl (any_of HT_.out (by kernel_rfl)) (fun _ _ _ h => h) (Or.inl ⟨by rfl, ?_⟩) ?_ ?_; rotate_left; { intro w'; go_simp; with_reducible rfl }; rotate_left; { simp only [Act.put, List.setIfInBounds_toArray, List.set_cons_zero, List.set_cons_succ, i64_w, i32_w]; rfl }
                              refine pure_ (i := 18) (N := some 103) (v := ?_) (a' := ?_) (bl_ 33 524287) rfl rfl (any_of HT_.out (by kernel_rfl)) (fun _ _ _ h => h) (Or.inl ⟨by rfl, ?_⟩) ?_ ?_; rotate_left; { intro w'; go_simp; with_reducible rfl }; rotate_left; { simp only [Act.put, List.setIfInBounds_toArray, List.set_cons_zero, List.set_cons_succ, i64_w, i32_w]; rfl }
                              refine pure_ (i := 19) (N := some 104) (v := undef) (a' := ?_) (bl_ 33 1048575) rfl rfl (any_of HT_.out (by kernel_rfl)) (fun _ _ _ h => h) (Or.inr ⟨by rfl, rfl⟩) ?_ ?_; rotate_left; { simp only [Act.put, List.setIfInBounds_toArray, List.set_cons_zero, List.set_cons_succ, i64_w, i32_w]; rfl }
                              refine pure_ (i := 20) (N := some 105) (v := undef) (a' := ?_) (bl_ 33 2097151) rfl rfl (any_of HT_.out (by kernel_rfl)) (fun _ _ _ h => h) (Or.inr ⟨by rfl, rfl⟩) ?_ ?_; rotate_left; { simp only [Act.put, List.setIfInBounds_toArray, List.set_cons_zero, List.set_cons_succ, i64_w, i32_w]; rfl }
                              refine pure_ (i := 21) (N := some 106) (v := undef) (a' := ?_) (bl_ 33 4194303) rfl rfl (any_of HT_.out (by kernel_rfl)) (fun _ _ _ h => h) (Or.inr ⟨by rfl, rfl⟩) ?_ ?_; rotate_left; { simp only [Act.put, List.setIfInBounds_toArray, List.set_cons_zero, List.set_cons_succ, i64_w, i32_w]; rfl }
                              refine pure_ (i := 22) (N := some 107) (v := undef) (a' := ?_) (bl_ 33 8388607) rfl rfl (any_of HT_.out (by kernel_rfl)) (fun _ _ _ h => h) (Or.inr ⟨by rfl, rfl⟩) ?_ ?_; rotate_left; { simp only [Act.put, List.setIfInBounds_toArray, List.set_cons_zero, List.set_cons_succ, i64_w, i32_w]; rfl }
                              refine pure_ (i := 23) (N := some 108) (v := undef) (a' := ?_) (bl_ 33 16777215) rfl rfl (any_of HT_.out (by kernel_rfl)) (fun _ _ _ h => h) (Or.inr ⟨by rfl, rfl⟩) ?_ ?_; rotate_left; { simp only [Act.put, List.setIfInBounds_toArray, List.set_cons_zero, List.set_cons_succ, i64_w, i32_w]; rfl }
                              refine pure_ (i := 24) (N := some 109) (v := undef) (a' := ?_) (bl_ 33 33554431) rfl rfl (any_of HT_.out (by kernel_rfl)) (fun _ _ _ h => h) (Or.inr ⟨by rfl, rfl⟩) ?_ ?_; rotate_left; { simp only [Act.put, List.setIfInBounds_toArray, List.set_cons_zero, List.set_cons_succ, i64_w, i32_w]; rfl }
                              refine pure_ (i := 25) (N := some 110) (v := undef) (a' := ?_) (bl_ 33 67108863) rfl rfl (any_of HT_.out (by kernel_rfl)) (fun _ _ _ h => h) (Or.inr ⟨by rfl, rfl⟩) ?_ ?_; rotate_left; { simp only [Act.put, List.setIfInBounds_toArray, List.set_cons_zero, List.set_cons_succ, i64_w, i32_w]; rfl }
                              refine pure_ (i := 26) (N := some 111) (v := undef) (a' := ?_) (bl_ 33 134217727) rfl rfl (any_of HT_.out (by kernel_rfl)) (fun _ _ _ h => h) (Or.inr ⟨by rfl, rfl⟩) ?_ ?_; rotate_left; { simp only [Act.put, List.setIfInBounds_toArray, List.set_cons_zero, List.set_cons_succ, i64_w, i32_w]; rfl }
                              refine pure_ (i := 27) (N := some 112) (v := undef) (a' := ?_) (bl_ 33 268435455) rfl rfl (any_of HT_.out (by kernel_rfl)) (fun _ _ _ h => h) (Or.inr ⟨by rfl, rfl⟩) ?_ ?_; rotate_left; { simp only [Act.put, List.setIfInBounds_toArray, List.set_cons_zero, List.set_cons_succ, i64_w, i32_w]; rfl }
                              refine pure_ (i := 28) (N := some 113) (v := undef) (a' := ?_) (bl_ 33 536870911) rfl rfl (any_of HT_.out (by kernel_rfl)) (fun _ _ _ h => h) (Or.inr ⟨by rfl, rfl⟩) ?_ ?_; rotate_left; { simp only [Act.put, List.setIfInBounds_toArray, List.set_cons_zero, List.set_cons_succ, i64_w, i32_w]; rfl }
                              refine pure_ (i := 29) (N := some 114) (v := undef) (a' := ?_) (bl_ 33 1073741823) rfl rfl (any_of HT_.out (by kernel_rfl)) (fun _ _ _ h => h) (Or.inr ⟨by rfl, rfl⟩) ?_ ?_; rotate_left; { simp only [Act.put, List.setIfInBounds_toArray, List.set_cons_zero, List.set_cons_succ, i64_w, i32_w]; rfl }
                              refine pure_ (i := 30) (N := some 115) (v := undef) (a' := ?_) (bl_ 33 2147483647) rfl rfl (any_of HT_.out (by kernel_rfl)) (fun _ _ _ h => h) (Or.inr ⟨by rfl, rfl⟩) ?_ ?_; rotate_left; { simp only [Act.put, List.setIfInBounds_toArray, List.set_cons_zero, List.set_cons_succ, i64_w, i32_w]; rfl }
                              refine pure_ (i := 31) (N := some 116) (v := undef) (a' := ?_) (bl_ 33 4294967295) rfl rfl (any_of HT_.out (by kernel_rfl)) (fun _ _ _ h => h) (Or.inr ⟨by rfl, rfl⟩) ?_ ?_; rotate_left; { simp only [Act.put, List.setIfInBounds_toArray, List.set_cons_zero, List.set_cons_succ, i64_w, i32_w]; rfl }
                              refine pure_ (i := 32) (N := some 117) (v := ?_) (a' := ?_) (bl_ 33 8589934591) rfl rfl (any_of HT_.out (by kernel_rfl)) (fun _ _ _ h => h) (Or.inl ⟨by rfl, ?_⟩) ?_ ?_; rotate_left; { intro w'; go_simp; with_reducible rfl }; rotate_left; { simp only [Act.put, List.setIfInBounds_toArray, List.set_cons_zero, List.set_cons_succ, i64_w, i32_w]; rfl }
                              refine done_ (done_of HT_.out (by kernel_rfl)) ?_
                              try go_wp2
                              go_ret
                              exact ⟨by first | rfl | (simp [errW_none, errW_some, erT_no, erV_no, erT_at, erV_at] <;> rfl) | (simp only [← hji3]; first | rfl | (simp [errW_none, errW_some, erT_no, erV_no, erT_at, erV_at] <;> rfl)) | (simp [*, errW_none, errW_some, erT_no, erV_no, erT_at, erV_at] <;> rfl), by repeat (first | (with_reducible first | exact HB.out | apply below_alloc | apply pw_below_drewN | apply below_drew1 | refine below_set ?_ GE216.out) | exact HB.out)⟩
                            · rw [if_neg c45] at H
                              have c45b0 : decide ((t202.length : Int) < ((rd_T64 t206 x80_2).f1)) = false := decide_eq_false c45
                              clear c45
                              by_cases c51 : 0 ≤ ((rd_T64 t206 x80_2).f0)
                              · rw [if_pos c51] at H
                                have c51b0 := eq_true c51
                                have c51b1 : decide (0 ≤ ((rd_T64 t206 x80_2).f0)) = true := decide_eq_true c51
                                clear c51
                                by_cases c52 : ((rd_T64 t206 x80_2).f0) ≤ ((rd_T64 t206 x80_2).f1)
                                · rw [if_pos c52] at H
                                  have c52b0 := eq_true c52
                                  have c52b1 : decide (((rd_T64 t206 x80_2).f0) ≤ ((rd_T64 t206 x80_2).f1)) = true := decide_eq_true c52
                                  clear c52
                                  by_cases c53 : ((rd_T64 t206 x80_2).f1) ≤ (t202.length : Int)
                                  · rw [if_pos c53] at H
                                    have c53b0 := eq_true c53
                                    have c53b1 : decide (((rd_T64 t206 x80_2).f1) ≤ (t202.length : Int)) = true := decide_eq_true c53
                                    clear c53
                                    obtain ⟨y217, hy217⟩ : ∃ y_ : List Int, y_ = ((t202.take (((rd_T64 t206 x80_2).f1) : Int).toNat).drop (((rd_T64 t206 x80_2).f0) : Int).toNat) := ⟨_, rfl⟩
                                    replace H : (if x80_2 < (t199.length : Int) then (if (strOfNums y217).toList = ((rd_T64 t199 x80_2).f2).toList then (if 0 ≤ x9_2 then (if x9_2 ≤ ((rd_T64 t206 x80_2).f0) then (if ((rd_T64 t206 x80_2).f0) ≤ (t202.length : Int) then ((some ((t202.take (((rd_T64 t206 x80_2).f0) : Int).toNat).drop (x9_2 : Int).toNat : List Int)).bind fun y222 => (if x10_2.length + y222.length < 140737488355328 then ((some (x10_2 ++ y222 : List Int)).bind fun y226 => (if y226.length + ((rd_T64 t206 x80_2).f2).size < 140737488355328 then (cavillaw04_EditBack.l0 k2 y195 t199 t202 ((rd_T64 t206 x80_2).f1) (y226 ++ bytesOf ((rd_T64 t206 x80_2).f2)) t206 (t206.length : Int) (wrap64 (x80_2 + 1))) else (none))) else (none))) else (none)) else (none)) else (none)) else (some false)) else (none)) = some r := by first | (rw [hy217]; with_reducible exact H) | (have H2_ := (Option.bind_some _ _).symm.trans H; rw [hy217]; with_reducible exact H2_) | (have H2_ := (Option.bind_some _ _).symm.trans H; with_reducible exact H2_) | with_reducible exact H | (rw [hy217]; exact H) | exact H
                                    have Ny217 := Aside0.mk hy217
                                    clear hy217
                                    by_cases c54 : x80_2 < (t199.length : Int)
                                    · rw [if_pos c54] at H
                                      have c54b0 : decide (x80_2 < (t199.length : Int)) = true := decide_eq_true c54
                                      clear c54
                                      by_cases c55 : (strOfNums y217).toList = ((rd_T64 t199 x80_2).f2).toList
                                      · rw [if_pos c55] at H
                                        have c55b0 : ((strOfNums y217).toList == ((rd_T64 t199 x80_2).f2).toList) = true := beq_iff_eq.mpr c55
                                        have c55b1 : ((strOfNums y217).toList != ((rd_T64 t199 x80_2).f2).toList) = false := bne_eq_false_iff_eq.mpr c55
                                        clear c55
                                        by_cases c56 : 0 ≤ x9_2
                                        · rw [if_pos c56] at H
                                          have c56b0 := eq_true c56
                                          have c56b1 : decide (0 ≤ x9_2) = true := decide_eq_true c56
                                          clear c56
                                          by_cases c57 : x9_2 ≤ ((rd_T64 t206 x80_2).f0)
                                          · rw [if_pos c57] at H
                                            have c57b0 := eq_true c57
                                            have c57b1 : decide (x9_2 ≤ ((rd_T64 t206 x80_2).f0)) = true := decide_eq_true c57
                                            clear c57
                                            by_cases c58 : ((rd_T64 t206 x80_2).f0) ≤ (t202.length : Int)
                                            · rw [if_pos c58] at H
                                              have c58b0 := eq_true c58
                                              have c58b1 : decide (((rd_T64 t206 x80_2).f0) ≤ (t202.length : Int)) = true := decide_eq_true c58
                                              clear c58
                                              obtain ⟨y222, hy222⟩ : ∃ y_ : List Int, y_ = ((t202.take (((rd_T64 t206 x80_2).f0) : Int).toNat).drop (x9_2 : Int).toNat) := ⟨_, rfl⟩
                                              replace H : (if x10_2.length + y222.length < 140737488355328 then ((some (x10_2 ++ y222 : List Int)).bind fun y226 => (if y226.length + ((rd_T64 t206 x80_2).f2).size < 140737488355328 then (cavillaw04_EditBack.l0 k2 y195 t199 t202 ((rd_T64 t206 x80_2).f1) (y226 ++ bytesOf ((rd_T64 t206 x80_2).f2)) t206 (t206.length : Int) (wrap64 (x80_2 + 1))) else (none))) else (none)) = some r := by first | (rw [hy222]; with_reducible exact H) | (have H2_ := (Option.bind_some _ _).symm.trans H; rw [hy222]; with_reducible exact H2_) | (have H2_ := (Option.bind_some _ _).symm.trans H; with_reducible exact H2_) | with_reducible exact H | (rw [hy222]; exact H) | exact H
                                              have Ny222 := Aside0.mk hy222
                                              clear hy222
                                              by_cases c59 : x10_2.length + y222.length < 140737488355328
                                              · rw [if_pos c59] at H
                                                have LMc59 := Aside0.mk c59
                                                clear c59
                                                obtain ⟨y226, hy226⟩ : ∃ y_ : List Int, y_ = (x10_2 ++ y222) := ⟨_, rfl⟩
                                                replace H : (if y226.length + ((rd_T64 t206 x80_2).f2).size < 140737488355328 then (cavillaw04_EditBack.l0 k2 y195 t199 t202 ((rd_T64 t206 x80_2).f1) (y226 ++ bytesOf ((rd_T64 t206 x80_2).f2)) t206 (t206.length : Int) (wrap64 (x80_2 + 1))) else (none)) = some r := by first | (rw [hy226]; with_reducible exact H) | (have H2_ := (Option.bind_some _ _).symm.trans H; rw [hy226]; with_reducible exact H2_) | (have H2_ := (Option.bind_some _ _).symm.trans H; with_reducible exact H2_) | with_reducible exact H | (rw [hy226]; exact H) | exact H
                                                have Ny226 := Aside0.mk hy226
                                                clear hy226
                                                by_cases c60 : y226.length + ((rd_T64 t206 x80_2).f2).size < 140737488355328
                                                · rw [if_pos c60] at H
                                                  have LMc60 := Aside0.mk c60
                                                  clear c60
                                                  obtain ⟨y229, hy229⟩ : ∃ y_ : List Int, y_ = (y226 ++ bytesOf ((rd_T64 t206 x80_2).f2)) := ⟨_, rfl⟩
                                                  replace H : (cavillaw04_EditBack.l0 k2 y195 t199 t202 ((rd_T64 t206 x80_2).f1) y229 t206 (t206.length : Int) (wrap64 (x80_2 + 1))) = some r := by first | (rw [hy229]; with_reducible exact H) | (have H2_ := (Option.bind_some _ _).symm.trans H; rw [hy229]; with_reducible exact H2_) | (have H2_ := (Option.bind_some _ _).symm.trans H; with_reducible exact H2_) | with_reducible exact H | (rw [hy229]; exact H) | exact H
                                                  have Ny229 := Aside0.mk hy229
                                                  clear hy229
                                                  have H' := Aside0.mk H
                                                  clear H
                                                  have p215 : 0 ≤ (x80_2 : Int) := of_decide_eq_true (by first | (with_reducible assumption) | assumption)
                                                  have q215 : x80_2 < (t206.length : Int) := of_decide_eq_true (by first | (with_reducible assumption) | assumption)
                                                  obtain ⟨ad215, e215, hx215_0, hx215_1, hx215_2⟩ := at_T64 (Kd.R_reads' HO_78.out).2.2 x80_2 p215 q215
                                                  cases e215
                                                  replace p215 := eq_true p215
                                                  replace q215 := eq_true q215
                                                  try go_wp2_with (first | ((with_reducible refine gate_dst (N := 12) rfl ?_); (try (refine gate_guard (by rfl) ?_; dsimp only)); refine box_event ?hg (N := 12) ?hd (cs := #[.int .i64 0, .int .i64 0, .string (⟨#[]⟩ : ByteArray)]) (t := 64) ?hr ?_; (case hd => rfl); (case hg => rfl); (case hr => first | (go_simp; done) | (go_simp; rfl)); intro gb216 hg w61 hbox hb; have n0_ := Aside0.mk (Kd.R_below (Kd.R_elderB (by (with_reducible repeat (first | apply Kd.R_alloc | apply Kd.R_drewN | apply Kd.R_drew)); exact HO_1.out) gb216 (Nat.le_of_eq hg.symm)) hb); have n1_ := Aside0.mk (Kd.R_below (by (with_reducible repeat (first | apply Kd.R_alloc | apply Kd.R_drewN | apply Kd.R_drew)); exact HO_5.out) hb); have n2_ := Aside0.mk (Kd.R_below (by (with_reducible repeat (first | apply Kd.R_alloc | apply Kd.R_drewN | apply Kd.R_drew)); exact HO_10.out) hb); have n3_ := Aside0.mk (Kd.R_below (Kd.R_elderB (by (with_reducible repeat (first | apply Kd.R_alloc | apply Kd.R_drewN | apply Kd.R_drew)); exact HO_78.out) gb216 (Nat.le_of_eq hg.symm)) hb); have n4_ := Aside0.mk (below_step (by repeat (first | (with_reducible first | exact HB.out | apply below_alloc | apply pw_below_drewN | apply below_drew1) | exact HB.out)) hb); have n5_ := Aside0.mk (hbox); have n6_ := Aside0.mk ((by rw [hg]; exact (below_size (by repeat (first | (with_reducible first | exact HB.out | apply below_alloc | apply pw_below_drewN | apply below_drew1) | exact HB.out))) : w.heap.size ≤ gb216)); have n7_ := Aside0.mk ((by rw [hg]; exact (below_size (by repeat (first | (with_reducible first | exact HB.out | apply below_alloc | apply pw_below_drewN | apply below_drew1) | exact HB.out))) : w.heap.size ≤ gb216)); clear HO_1; clear HO_5; clear HO_10; clear HO_78; clear HB; have HO_1 := n0_; have HO_5 := n1_; have HO_10 := n2_; have HO_78 := n3_; have HB := n4_; have BK216 := n5_; have GW216 := n6_; have GE216 := n7_; clear n0_ n1_ n2_ n3_ n4_ n5_ n6_ n7_; clear hb hbox hg; have hcz62_0 : w61.cell? ⟨gb216, 0, none⟩ = some (.int .i64 0) := (blk_cell BK216.out 0).trans rfl; have hcz62_1 : w61.cell? ⟨gb216, 1, none⟩ = some (.int .i64 0) := (blk_cell BK216.out 1).trans rfl; have hcz62_2 : w61.cell? ⟨gb216, 2, none⟩ = some (.string (⟨#[]⟩ : ByteArray)) := (blk_cell BK216.out 2).trans rfl; have hfz62_0 := blk_frozen BK216.out 0; have hfz62_1 := blk_frozen BK216.out 1; have hfz62_2 := blk_frozen BK216.out 2))
                                                  have n0_ : Aside0 (Kd.R k64 64 (((w61.setCell ⟨gb216, 0, none⟩ (.int .i64 ((rd_T64 t206 x80_2).f0))).setCell ⟨gb216, 1, none⟩ (.int .i64 ((rd_T64 t206 x80_2).f1))).setCell ⟨gb216, 2, none⟩ (.string ((rd_T64 t206 x80_2).f2))) w.heap.size (fun k_ => some k_ ≠ (.slice (some ad215) t206.length co31 : Value).ownBlock ∧ k_ ≠ gb216) (.slice Ao13 t199.length co13) t199) := ⟨by (with_reducible repeat (first | apply Kd.R_alloc | apply Kd.R_drewN | apply Kd.R_drew)); exact Kd.R_mono (Kd.R_far (p := ⟨gb216, 2, none⟩) (Kd.R_far (p := ⟨gb216, 1, none⟩) (Kd.R_far (p := ⟨gb216, 0, none⟩) (Kd.R_mono HO_1.out (fun k_ hk => (⟨hk, hk.2⟩ : _ ∧ k_ ≠ gb216))) (fun _ hk => hk.2) (.int .i64 ((rd_T64 t206 x80_2).f0))) (fun _ hk => hk.2) (.int .i64 ((rd_T64 t206 x80_2).f1))) (fun _ hk => hk.2) (.string ((rd_T64 t206 x80_2).f2))) (fun _ hk => ⟨hk.1.1, hk.1.2⟩)⟩
                                                  have n1_ : Aside0 (Kd.R (Kd.int .u8) 5 (((w61.setCell ⟨gb216, 0, none⟩ (.int .i64 ((rd_T64 t206 x80_2).f0))).setCell ⟨gb216, 1, none⟩ (.int .i64 ((rd_T64 t206 x80_2).f1))).setCell ⟨gb216, 2, none⟩ (.string ((rd_T64 t206 x80_2).f2))) w.heap.size (fun k_ => some k_ ≠ (u10 : Value).ownBlock) v204 t202) := ⟨by (with_reducible repeat (first | apply Kd.R_alloc | apply Kd.R_drewN | apply Kd.R_drew)); exact Kd.R_mono (Kd.R_far (p := ⟨gb216, 2, none⟩) (Kd.R_far (p := ⟨gb216, 1, none⟩) (Kd.R_far (p := ⟨gb216, 0, none⟩) (Kd.R_types HO_5.out BK216.out (by decide)) (fun _ hk => hk.2) (.int .i64 ((rd_T64 t206 x80_2).f0))) (fun _ hk => hk.2) (.int .i64 ((rd_T64 t206 x80_2).f1))) (fun _ hk => hk.2) (.string ((rd_T64 t206 x80_2).f2))) (fun _ hk => hk.1)⟩
                                                  have n2_ : Aside0 (Kd.R (Kd.int .u8) 5 (((w61.setCell ⟨gb216, 0, none⟩ (.int .i64 ((rd_T64 t206 x80_2).f0))).setCell ⟨gb216, 1, none⟩ (.int .i64 ((rd_T64 t206 x80_2).f1))).setCell ⟨gb216, 2, none⟩ (.string ((rd_T64 t206 x80_2).f2))) w.heap.size (fun k_ => some k_ ≠ (v204 : Value).ownBlock) u10 x10_2) := ⟨by (with_reducible repeat (first | apply Kd.R_alloc | apply Kd.R_drewN | apply Kd.R_drew)); exact Kd.R_mono (Kd.R_far (p := ⟨gb216, 2, none⟩) (Kd.R_far (p := ⟨gb216, 1, none⟩) (Kd.R_far (p := ⟨gb216, 0, none⟩) (Kd.R_types HO_10.out BK216.out (by decide)) (fun _ hk => hk.2) (.int .i64 ((rd_T64 t206 x80_2).f0))) (fun _ hk => hk.2) (.int .i64 ((rd_T64 t206 x80_2).f1))) (fun _ hk => hk.2) (.string ((rd_T64 t206 x80_2).f2))) (fun _ hk => hk.1)⟩
                                                  have n3_ : Aside0 (Kd.R k64 64 (((w61.setCell ⟨gb216, 0, none⟩ (.int .i64 ((rd_T64 t206 x80_2).f0))).setCell ⟨gb216, 1, none⟩ (.int .i64 ((rd_T64 t206 x80_2).f1))).setCell ⟨gb216, 2, none⟩ (.string ((rd_T64 t206 x80_2).f2))) w.heap.size (fun k_ => some k_ ≠ (.slice Ao13 t199.length co13 : Value).ownBlock ∧ k_ ≠ gb216) (.slice (some ad215) t206.length co31) t206) := ⟨by (with_reducible repeat (first | apply Kd.R_alloc | apply Kd.R_drewN | apply Kd.R_drew)); exact Kd.R_mono (Kd.R_far (p := ⟨gb216, 2, none⟩) (Kd.R_far (p := ⟨gb216, 1, none⟩) (Kd.R_far (p := ⟨gb216, 0, none⟩) (Kd.R_mono HO_78.out (fun k_ hk => (⟨hk, hk.2⟩ : _ ∧ k_ ≠ gb216))) (fun _ hk => hk.2) (.int .i64 ((rd_T64 t206 x80_2).f0))) (fun _ hk => hk.2) (.int .i64 ((rd_T64 t206 x80_2).f1))) (fun _ hk => hk.2) (.string ((rd_T64 t206 x80_2).f2))) (fun _ hk => ⟨hk.1.1, hk.1.2⟩)⟩
                                                  have n4_ : Aside0 ((((w61.setCell ⟨gb216, 0, none⟩ (.int .i64 ((rd_T64 t206 x80_2).f0))).setCell ⟨gb216, 1, none⟩ (.int .i64 ((rd_T64 t206 x80_2).f1))).setCell ⟨gb216, 2, none⟩ (.string ((rd_T64 t206 x80_2).f2))).heap[gb216]? = some (.cells #[.int .i64 ((rd_T64 t206 x80_2).f0), .int .i64 ((rd_T64 t206 x80_2).f1), .string ((rd_T64 t206 x80_2).f2)] 64 (0, 0))) := ⟨by (with_reducible repeat (first | refine blk_drewN ?_ _ | refine blk_drew ?_ | refine blk_alloc ?_ _)); refine blk_put (cs := #[.int .i64 ((rd_T64 t206 x80_2).f0), .int .i64 ((rd_T64 t206 x80_2).f1), .string (⟨#[]⟩ : ByteArray)]) ?_ 2 _ rfl; (with_reducible repeat (first | refine blk_drewN ?_ _ | refine blk_drew ?_ | refine blk_alloc ?_ _)); refine blk_put (cs := #[.int .i64 ((rd_T64 t206 x80_2).f0), .int .i64 0, .string (⟨#[]⟩ : ByteArray)]) ?_ 1 _ rfl; (with_reducible repeat (first | refine blk_drewN ?_ _ | refine blk_drew ?_ | refine blk_alloc ?_ _)); refine blk_put (cs := #[.int .i64 0, .int .i64 0, .string (⟨#[]⟩ : ByteArray)]) ?_ 0 _ rfl; (with_reducible repeat (first | refine blk_drewN ?_ _ | refine blk_drew ?_ | refine blk_alloc ?_ _)); exact BK216.out⟩
                                                  have n5_ : Aside0 (Below w.heap.size w (((w61.setCell ⟨gb216, 0, none⟩ (.int .i64 ((rd_T64 t206 x80_2).f0))).setCell ⟨gb216, 1, none⟩ (.int .i64 ((rd_T64 t206 x80_2).f1))).setCell ⟨gb216, 2, none⟩ (.string ((rd_T64 t206 x80_2).f2)))) := ⟨by repeat (first | (with_reducible first | exact HB.out | apply below_alloc | apply pw_below_drewN | apply below_drew1 | refine below_set ?_ GE216.out) | exact HB.out)⟩
                                                  (try clear HO_1)
                                                  (try clear HO_5)
                                                  (try clear HO_10)
                                                  (try clear HO_78)
                                                  (try clear BK216)
                                                  (try clear HB)
                                                  generalize (((w61.setCell ⟨gb216, 0, none⟩ (.int .i64 ((rd_T64 t206 x80_2).f0))).setCell ⟨gb216, 1, none⟩ (.int .i64 ((rd_T64 t206 x80_2).f1))).setCell ⟨gb216, 2, none⟩ (.string ((rd_T64 t206 x80_2).f2))) = w63 at n0_ n1_ n2_ n3_ n4_ n5_ ⊢
                                                  have HO_1 := n0_
                                                  have HO_5 := n1_
                                                  have HO_10 := n2_
                                                  have HO_78 := n3_
                                                  have BK216 := n4_
                                                  have HB := n5_
                                                  clear n0_ n1_ n2_ n3_ n4_ n5_
                                                  have n0_ := Aside0.mk (Kd.R_drew HO_1.out)
                                                  have n1_ := Aside0.mk (Kd.R_drew HO_5.out)
                                                  have n2_ := Aside0.mk (Kd.R_drew HO_10.out)
                                                  have n3_ := Aside0.mk (Kd.R_drew HO_78.out)
                                                  have n4_ := Aside0.mk (blk_drew BK216.out)
                                                  have n5_ := Aside0.mk (below_drew1 HB.out)
                                                  clear HO_1
                                                  clear HO_5
                                                  clear HO_10
                                                  clear HO_78
                                                  clear BK216
                                                  clear HB
                                                  have HO_1 := n0_
                                                  have HO_5 := n1_
                                                  have HO_10 := n2_
                                                  have HO_78 := n3_
                                                  have BK216 := n4_
                                                  have HB := n5_
                                                  clear n0_ n1_ n2_ n3_ n4_ n5_
                                                  obtain ⟨Ao65, co65, eo65⟩ := Kd.R_slice HO_5.out
                                                  (first | subst eo65 | (injection eo65 with f1_ f2_ f3_; have f4_ := f1_.symm; have f5_ := f3_.symm; clear f1_ f2_ f3_; subst f4_; subst f5_))
                                                  have q66 : (((rd_T64 t206 x80_2).f1) : Int) ≤ ((t202.length : Int) : Int) := of_decide_eq_true (by first | (with_reducible assumption) | assumption)
                                                  obtain ⟨i066, hi066, _, hsz66, _⟩ := info_parts info5
                                                  have hroom66 : t202.length ≤ co65 := (Kd.R_reads' HO_5.out).2.1
                                                  have hC66 : Kd.C (Kd.int .u8) _ Ao65 t202.length t202 := (Kd.R_reads' HO_5.out).2.2
                                                  have ql66 : (((rd_T64 t206 x80_2).f0) : Int) ≤ (((rd_T64 t206 x80_2).f1) : Int) := of_decide_eq_true (by first | (with_reducible assumption) | assumption)
                                                  have q066 : (0 : Int) ≤ (((rd_T64 t206 x80_2).f0) : Int) := of_decide_eq_true (by first | (with_reducible assumption) | assumption)
                                                  have hcut66 := cut_mid (P := Try.prog) 22 5 .i64 .i64 Try.underlying22 hi066 1 hsz66 Ao65 t202.length co65 ((rd_T64 t206 x80_2).f0) ((rd_T64 t206 x80_2).f1) q066 ql66 q66 hroom66
                                                  have hr66 := Kd.C_mid (lo := (((rd_T64 t206 x80_2).f0) : Int).toNat) (hi := (((rd_T64 t206 x80_2).f1) : Int).toNat) (c := co65) hC66 (by omega) (by omega) hroom66
                                                  obtain ⟨A66, hA66⟩ : ∃ A1, A1 = (if co65 = (((rd_T64 t206 x80_2).f0) : Int).toNat then Ao65 else (Ao65 : Option Addr).map (·.add ((((rd_T64 t206 x80_2).f0) : Int).toNat * 1))) := ⟨_, rfl⟩
                                                  obtain ⟨c66, hc66⟩ : ∃ c1, c1 = co65 - (((rd_T64 t206 x80_2).f0) : Int).toNat := ⟨_, rfl⟩
                                                  have hy66 : y217.length = (((rd_T64 t206 x80_2).f1) : Int).toNat - (((rd_T64 t206 x80_2).f0) : Int).toNat := (by rw [Ny217.out, List.length_drop, List.length_take] <;> omega)
                                                  rw [show ((t202).take (((rd_T64 t206 x80_2).f1) : Int).toNat).drop (((rd_T64 t206 x80_2).f0) : Int).toNat = y217 from Ny217.out.symm] at hr66
                                                  replace hr66 : Kd.C (Kd.int .u8) _ A66 y217.length y217 := (by rw [hA66]; exact hr66)
                                                  rw [← hy66, ← hA66, ← hc66] at hcut66
                                                  have HR220 := Aside0.mk hr66
                                                  have HC220 := Aside0.mk (show y217.length ≤ c66 from by rw [hy66, hc66]; exact Nat.sub_le_sub_right (Nat.le_trans (by omega) hroom66) _)
                                                  clear hr66 hC66 hroom66 hi066 hsz66 hc66
                                                  have KY66 := Aside0.mk hy66
                                                  have KA66 := Aside0.mk hA66
                                                  clear hy66 hA66
                                                  have KL66 := Aside0.mk (show (((rd_T64 t206 x80_2).f1) : Int).toNat ≤ t202.length from by omega)
                                                  have KM66 := Aside0.mk (show (((rd_T64 t206 x80_2).f0) : Int).toNat ≤ (((rd_T64 t206 x80_2).f1) : Int).toNat from by omega)
                                                  replace q66 := eq_true q66
                                                  have p221 : 0 ≤ (x80_2 : Int) := of_decide_eq_true (by first | (with_reducible assumption) | assumption)
                                                  have q221 : x80_2 < (t199.length : Int) := of_decide_eq_true (by first | (with_reducible assumption) | assumption)
                                                  obtain ⟨ad221, e221, hx221_0, hx221_1, hx221_2⟩ := at_T64 (Kd.R_reads' HO_1.out).2.2 x80_2 p221 q221
                                                  cases e221
                                                  replace p221 := eq_true p221
                                                  replace q221 := eq_true q221
                                                  refine start_ (n := 33) (S := fun w' => w'.cell? ⟨gb216, 0, none⟩ = some (.int .i64 ((rd_T64 t206 x80_2).f0)) ∧ w'.cell? ⟨gb216, 1, none⟩ = some (.int .i64 ((rd_T64 t206 x80_2).f1)) ∧ w'.cell? ⟨gb216, 2, none⟩ = some (.string ((rd_T64 t206 x80_2).f2)) ∧ w'.cell? (ad221.add ((x80_2).toNat * 3)) = some (.int .i64 ((rd_T64 t199 x80_2).f0)) ∧ w'.cell? ⟨(ad221.add ((x80_2).toNat * 3)).block, (ad221.add ((x80_2).toNat * 3)).off + 1, none⟩ = some (.int .i64 ((rd_T64 t199 x80_2).f1)) ∧ w'.cell? ⟨(ad221.add ((x80_2).toNat * 3)).block, (ad221.add ((x80_2).toNat * 3)).off + 2, none⟩ = some (.string ((rd_T64 t199 x80_2).f2))) (ds := []) #[false, false, false, false, false, false, false, false, false, false, false, false, false, false, false, false, false, false, false, false, false, false, false, false, false, false, false, false, false, false, false, false, false] (by kernel_rfl) rfl rfl ⟨(blk_cell BK216.out 0).trans rfl, (blk_cell BK216.out 1).trans rfl, (blk_cell BK216.out 2).trans rfl, hx221_0, hx221_1, hx221_2⟩ (fun hHeld => ?_); refine with_tabW cavillaw04_EditBack.tab13 cavillaw04_EditBack.bits13 (fun HT_ HW_ => ?_)
                                                  generalize w63.drew = w64 at HO_1 HO_5 HO_10 HO_78 BK216 HB HR220 hx221_0 hx221_1 hx221_2 hHeld ⊢
                                                  refine pure_ (i := 0) (N := some 85) (v := ?_) (a' := ?_) (bl_ 33 1) rfl rfl (any_of HT_.out (by kernel_rfl)) (fun _ _ _ h => h) (Or.inl ⟨by rfl, ?_⟩) ?_ ?_; rotate_left; { intro w'; go_simp; with_reducible rfl }; rotate_left; { simp only [Act.put, List.setIfInBounds_toArray, List.set_cons_zero, List.set_cons_succ, i64_w, i32_w]; rfl }
                                                  refine pure_ (i := 2) (N := some 87) (v := ?_) (a' := ?_) (bl_ 33 5) rfl rfl (any_of HT_.out (by kernel_rfl)) (fun _ _ _ h => h) (Or.inl ⟨by rfl, ?_⟩) ?_ ?_; rotate_left; { intro w'; go_simp; with_reducible rfl }; rotate_left; { simp only [Act.put, List.setIfInBounds_toArray, List.set_cons_zero, List.set_cons_succ, i64_w, i32_w]; rfl }
                                                  refine take_ (i := 1) (N := some 86) (v := ?_) (a' := ?_) (bl_ 33 7) rfl rfl (take_ofW HT_.out HW_.out (by kernel_rfl)) (fun _ _ _ h => h) (Or.inl ⟨by rfl, ?_⟩) hHeld ?_ ?_; rotate_left; { rintro w' ⟨s0, s1, s2, s3, s4, s5⟩; go_simp; with_reducible rfl }; rotate_left; { simp only [Act.put, List.setIfInBounds_toArray, List.set_cons_zero, List.set_cons_succ, i64_w, i32_w]; rfl }
                                                  refine pure_ (i := 3) (N := some 88) (v := ?_) (a' := ?_) (bl_ 33 15) rfl rfl (any_of HT_.out (by kernel_rfl)) (fun _ _ _ h => h) (Or.inl ⟨by rfl, ?_⟩) ?_ ?_; rotate_left; { intro w'; go_simp; with_reducible rfl }; rotate_left; { simp only [Act.put, List.setIfInBounds_toArray, List.set_cons_zero, List.set_cons_succ, i64_w, i32_w]; rfl }
                                                  refine pure_ (i := 4) (N := some 89) (v := ?_) (a' := ?_) (bl_ 33 31) rfl rfl (any_of HT_.out (by kernel_rfl)) (fun _ _ _ h => h) (Or.inl ⟨by rfl, ?_⟩) ?_ ?_; rotate_left; { intro w'; go_simp; with_reducible rfl }; rotate_left; { simp only [Act.put, List.setIfInBounds_toArray, List.set_cons_zero, List.set_cons_succ, i64_w, i32_w]; rfl }
                                                  refine pure_ (i := 5) (N := some 90) (v := ?_) (a' := ?_) (bl_ 33 63) rfl rfl (any_of HT_.out (by kernel_rfl)) (fun _ _ _ h => h) (Or.inl ⟨by rfl, ?_⟩) ?_ ?_; rotate_left; { intro w'; go_simp; with_reducible rfl }; rotate_left; { simp only [Act.put, List.setIfInBounds_toArray, List.set_cons_zero, List.set_cons_succ, i64_w, i32_w]; rfl }
                                                  refine pure_ (i := 7) (N := some 92) (v := ?_) (a' := ?_) (bl_ 33 191) rfl rfl (any_of HT_.out (by kernel_rfl)) (fun _ _ _ h => h) (Or.inl ⟨by rfl, ?_⟩) ?_ ?_; rotate_left; { intro w'; go_simp; with_reducible rfl }; rotate_left; { simp only [Act.put, List.setIfInBounds_toArray, List.set_cons_zero, List.set_cons_succ, i64_w, i32_w]; rfl }
                                                  refine take_ (i := 6) (N := some 91) (v := ?_) (a' := ?_) (bl_ 33 255) rfl rfl (take_ofW HT_.out HW_.out (by kernel_rfl)) (fun _ _ _ h => h) (Or.inl ⟨by rfl, ?_⟩) hHeld ?_ ?_; rotate_left; { rintro w' ⟨s0, s1, s2, s3, s4, s5⟩; go_simp; with_reducible rfl }; rotate_left; { simp only [Act.put, List.setIfInBounds_toArray, List.set_cons_zero, List.set_cons_succ, i64_w, i32_w]; rfl }
                                                  refine take_ (i := 8) (N := some 93) (v := ?_) (a' := ?_) (bl_ 33 511) rfl rfl (take_ofW HT_.out HW_.out (by kernel_rfl)) (fun _ _ _ h => h) (Or.inl ⟨by rfl, ?_⟩) hHeld ?_ ?_; rotate_left; { rintro w' ⟨s0, s1, s2, s3, s4, s5⟩; go_simp; with_reducible rfl }; rotate_left; { simp only [Act.put, List.setIfInBounds_toArray, List.set_cons_zero, List.set_cons_succ, i64_w, i32_w]; rfl }
                                                  refine pure_ (i := 9) (N := some 94) (v := ?_) (a' := ?_) (bl_ 33 1023) rfl rfl (any_of HT_.out (by kernel_rfl)) (fun _ _ _ h => h) (Or.inl ⟨by rfl, ?_⟩) ?_ ?_; rotate_left; { intro w'; go_simp; with_reducible rfl }; rotate_left; { simp only [Act.put, List.setIfInBounds_toArray, List.set_cons_zero, List.set_cons_succ, i64_w, i32_w]; rfl }
                                                  refine pure_ (i := 10) (N := some 95) (v := ?_) (a' := ?_) (bl_ 33 2047) rfl rfl (any_of HT_.out (by kernel_rfl)) (fun _ _ _ h => h) (Or.inl ⟨by rfl, ?_⟩) ?_ ?_; rotate_left; { intro w'; go_simp; with_reducible rfl }; rotate_left; { simp only [Act.put, List.setIfInBounds_toArray, List.set_cons_zero, List.set_cons_succ, i64_w, i32_w]; rfl }
                                                  refine pure_ (i := 11) (N := some 96) (v := ?_) (a' := ?_) (bl_ 33 4095) rfl rfl (any_of HT_.out (by kernel_rfl)) (fun _ _ _ h => h) (Or.inl ⟨by rfl, ?_⟩) ?_ ?_; rotate_left; { intro w'; go_simp; with_reducible rfl }; rotate_left; { simp only [Act.put, List.setIfInBounds_toArray, List.set_cons_zero, List.set_cons_succ, i64_w, i32_w]; rfl }
                                                  refine pure_ (i := 12) (N := some 97) (v := ?_) (a' := ?_) (bl_ 33 8191) rfl rfl (any_of HT_.out (by kernel_rfl)) (fun _ _ _ h => h) (Or.inl ⟨by rfl, ?_⟩) ?_ ?_; rotate_left; { intro w'; go_simp; with_reducible rfl }; rotate_left; { simp only [Act.put, List.setIfInBounds_toArray, List.set_cons_zero, List.set_cons_succ, i64_w, i32_w]; rfl }
                                                  refine pure_ (i := 14) (N := some 99) (v := ?_) (a' := ?_) (bl_ 33 24575) rfl rfl (any_of HT_.out (by kernel_rfl)) (fun _ _ _ h => h) (Or.inl ⟨by rfl, ?_⟩) ?_ ?_; rotate_left; { intro w'; go_simp; with_reducible rfl }; rotate_left; { simp only [Act.put, List.setIfInBounds_toArray, List.set_cons_zero, List.set_cons_succ, i64_w, i32_w]; rfl }
                                                  refine pure_ (i := 15) (N := some 100) (v := ?_) (a' := ?_) (bl_ 33 57343) rfl rfl (any_of HT_.out (by kernel_rfl)) (fun _ _ _ h => h) (Or.inl ⟨by rfl, ?_⟩) ?_ ?_; rotate_left; { intro w'; go_simp; with_reducible rfl }; rotate_left; { simp only [Act.put, List.setIfInBounds_toArray, List.set_cons_zero, List.set_cons_succ, i64_w, i32_w]; rfl }
                                                  refine take_ (i := 13) (N := some 98) (v := ?_) (a' := ?_) (bl_ 33 65535) rfl rfl (take_ofW HT_.out HW_.out (by kernel_rfl)) (fun _ _ _ h => h) (Or.inl ⟨by rfl, ?_⟩) hHeld ?_ ?_; rotate_left; { rintro w' ⟨s0, s1, s2, s3, s4, s5⟩; go_simp; with_reducible rfl }; rotate_left; { simp only [Act.put, List.setIfInBounds_toArray, List.set_cons_zero, List.set_cons_succ, i64_w, i32_w]; rfl }
                                                  refine pure_ (i := 16) (N := some 101) (v := ?_) (a' := ?_) (bl_ 33 131071) rfl rfl (any_of HT_.out (by kernel_rfl)) (fun _ _ _ h => h) (Or.inl ⟨by rfl, ?_⟩) ?_ ?_; rotate_left; { intro w'; go_simp; with_reducible rfl }; rotate_left; { simp only [Act.put, List.setIfInBounds_toArray, List.set_cons_zero, List.set_cons_succ, i64_w, i32_w]; rfl }
                                                  refine pure_ (i := 17) (N := some 102) (v := ?_) (a' := ?_) (bl_ 33 262143) rfl rfl (any_of HT_.out (by kernel_rfl)) (fun _ _ _ h => h) (Or.inl ⟨by rfl, ?_⟩) ?_ ?_; rotate_left; { intro w'; go_simp; with_reducible rfl }; rotate_left; { simp only [Act.put, List.setIfInBounds_toArray, List.set_cons_zero, List.set_cons_succ, i64_w, i32_w]; rfl }
                                                  refine pure_ (i := 18) (N := some 103) (v := ?_) (a' := ?_) (bl_ 33 524287) rfl rfl (any_of HT_.out (by kernel_rfl)) (fun _ _ _ h => h) (Or.inl ⟨by rfl, ?_⟩) ?_ ?_; rotate_left; { intro w'; go_simp; with_reducible rfl }; rotate_left; { simp only [Act.put, List.setIfInBounds_toArray, List.set_cons_zero, List.set_cons_succ, i64_w, i32_w]; rfl }
                                                  refine pure_ (i := 19) (N := some 104) (v := ?_) (a' := ?_) (bl_ 33 1048575) rfl rfl (any_of HT_.out (by kernel_rfl)) (fun _ _ _ h => h) (Or.inl ⟨by rfl, ?_⟩) ?_ ?_; rotate_left; { intro w'; go_simp; with_reducible rfl }; rotate_left; { simp only [Act.put, List.setIfInBounds_toArray, List.set_cons_zero, List.set_cons_succ, i64_w, i32_w]; rfl }
                                                  refine pure_ (i := 20) (N := some 105) (v := ?_) (a' := ?_) (bl_ 33 2097151) rfl rfl (any_of HT_.out (by kernel_rfl)) (fun _ _ _ h => h) (Or.inl ⟨by rfl, ?_⟩) ?_ ?_; rotate_left; { intro w'; go_simp; with_reducible rfl }; rotate_left; { simp only [Act.put, List.setIfInBounds_toArray, List.set_cons_zero, List.set_cons_succ, i64_w, i32_w]; rfl }
                                                  refine pure_ (i := 22) (N := some 107) (v := ?_) (a' := ?_) (bl_ 33 6291455) rfl rfl (any_of HT_.out (by kernel_rfl)) (fun _ _ _ h => h) (Or.inl ⟨by rfl, ?_⟩) ?_ ?_; rotate_left; { intro w'; go_simp; with_reducible rfl }; rotate_left; { simp only [Act.put, List.setIfInBounds_toArray, List.set_cons_zero, List.set_cons_succ, i64_w, i32_w]; rfl }
                                                  refine pure_ (i := 26) (N := some 111) (v := ?_) (a' := ?_) (bl_ 33 73400319) rfl rfl (any_of HT_.out (by kernel_rfl)) (fun _ _ _ h => h) (Or.inl ⟨by rfl, ?_⟩) ?_ ?_; rotate_left; { intro w'; go_simp; with_reducible rfl }; rotate_left; { simp only [Act.put, List.setIfInBounds_toArray, List.set_cons_zero, List.set_cons_succ, i64_w, i32_w]; rfl }
                                                  refine pure_ (i := 27) (N := some 112) (v := ?_) (a' := ?_) (bl_ 33 207618047) rfl rfl (any_of HT_.out (by kernel_rfl)) (fun _ _ _ h => h) (Or.inl ⟨by rfl, ?_⟩) ?_ ?_; rotate_left; { intro w'; go_simp; with_reducible rfl }; rotate_left; { simp only [Act.put, List.setIfInBounds_toArray, List.set_cons_zero, List.set_cons_succ, i64_w, i32_w]; rfl }
                                                  refine pure_ (i := 28) (N := some 113) (v := ?_) (a' := ?_) (bl_ 33 476053503) rfl rfl (any_of HT_.out (by kernel_rfl)) (fun _ _ _ h => h) (Or.inl ⟨by rfl, ?_⟩) ?_ ?_; rotate_left; { intro w'; go_simp; with_reducible rfl }; rotate_left; { simp only [Act.put, List.setIfInBounds_toArray, List.set_cons_zero, List.set_cons_succ, i64_w, i32_w]; rfl }
                                                  refine pure_ (i := 29) (N := some 114) (v := ?_) (a' := ?_) (bl_ 33 1012924415) rfl rfl (any_of HT_.out (by kernel_rfl)) (fun _ _ _ h => h) (Or.inl ⟨by rfl, ?_⟩) ?_ ?_; rotate_left; { intro w'; go_simp; with_reducible rfl }; rotate_left; { simp only [Act.put, List.setIfInBounds_toArray, List.set_cons_zero, List.set_cons_succ, i64_w, i32_w]; rfl }
                                                  refine take_ (i := 21) (N := some 106) (v := ?_) (a' := ?_) (bl_ 33 1015021567) rfl rfl (take_ofW HT_.out HW_.out (by kernel_rfl)) (fun _ _ _ h => h) (Or.inl ⟨by rfl, ?_⟩) hHeld ?_ ?_; rotate_left; { rintro w' ⟨s0, s1, s2, s3, s4, s5⟩; go_simp; with_reducible rfl }; rotate_left; { simp only [Act.put, List.setIfInBounds_toArray, List.set_cons_zero, List.set_cons_succ, i64_w, i32_w]; rfl }
                                                  refine take_ (i := 23) (N := some 108) (v := ?_) (a' := ?_) (bl_ 33 1023410175) rfl rfl (take_ofW HT_.out HW_.out (by kernel_rfl)) (fun _ _ _ h => h) (Or.inl ⟨by rfl, ?_⟩) hHeld ?_ ?_; rotate_left; { rintro w' ⟨s0, s1, s2, s3, s4, s5⟩; go_simp; with_reducible rfl }; rotate_left; { simp only [Act.put, List.setIfInBounds_toArray, List.set_cons_zero, List.set_cons_succ, i64_w, i32_w]; rfl }
                                                  refine pure_ (i := 24) (N := some 109) (v := ?_) (a' := ?_) (bl_ 33 1040187391) rfl rfl (any_of HT_.out (by kernel_rfl)) (fun _ _ _ h => h) (Or.inl ⟨by rfl, ?_⟩) ?_ ?_; rotate_left; { intro w'; go_simp; with_reducible rfl }; rotate_left; { simp only [Act.put, List.setIfInBounds_toArray, List.set_cons_zero, List.set_cons_succ, i64_w, i32_w]; rfl }
                                                  refine take_ (i := 30) (N := some 115) (v := ?_) (a' := ?_) (bl_ 33 2113929215) rfl rfl (take_ofW HT_.out HW_.out (by kernel_rfl)) (fun _ _ _ h => h) (Or.inl ⟨by rfl, ?_⟩) hHeld ?_ ?_; rotate_left; { rintro w' ⟨s0, s1, s2, s3, s4, s5⟩; go_simp; with_reducible rfl }; rotate_left; { simp only [Act.put, List.setIfInBounds_toArray, List.set_cons_zero, List.set_cons_succ, i64_w, i32_w]; rfl }
                                                  refine one_ (i := 25) (N := some 110) (bl_ 33 2147483647) rfl rfl (one_of HT_.out (by kernel_rfl)) (by decide) (fun K hK => ?_)
                                                  have hcv67 := Kd.C_string (P := Try.prog) (A := A66) (c := c66) Try.underlying22 Try.underlying5 Try.underlying9 (by repeat (first | (with_reducible exact HR220.out) | (with_reducible refine Kd.C_alloc ?_ _) | (with_reducible refine Kd.C_drewN ?_ _) | (with_reducible refine Kd.C_drew ?_) | exact HR220.out))
                                                  refine value_ (w1 := ?_) (v := ?_) (by rfl) rfl ?_ ?_; rotate_left 2
                                                  · go_simp
                                                    constructor
                                                    · rfl
                                                    · rfl
                                                  clear hcv67
                                                  refine hK.out _ _ ⟨hHeld.1, hHeld.2.1, hHeld.2.2.1, hHeld.2.2.2.1, hHeld.2.2.2.2.1, hHeld.2.2.2.2.2⟩ (fun hHeld => ?_)
                                                  clear hK K
                                                  refine norm_ (a' := ?_) ?_ ?_; rotate_left; { show Act.put _ (some 110) _ = _; simp only [Act.put, List.setIfInBounds_toArray, List.set_cons_zero, List.set_cons_succ, i64_w, i32_w]; rfl }
                                                  refine pure_ (i := 31) (N := some 116) (v := ?_) (a' := ?_) (bl_ 33 4294967295) rfl rfl (any_of HT_.out (by kernel_rfl)) (fun _ _ _ h => h) (Or.inl ⟨by rfl, ?_⟩) ?_ ?_; rotate_left; { intro w'; go_simp; with_reducible rfl }; rotate_left; { simp only [Act.put, List.setIfInBounds_toArray, List.set_cons_zero, List.set_cons_succ, i64_w, i32_w]; rfl }
                                                  refine pure_ (i := 32) (N := some 117) (v := ?_) (a' := ?_) (bl_ 33 8589934591) rfl rfl (any_of HT_.out (by kernel_rfl)) (fun _ _ _ h => h) (Or.inl ⟨by rfl, ?_⟩) ?_ ?_; rotate_left; { intro w'; go_simp; with_reducible rfl }; rotate_left; { simp only [Act.put, List.setIfInBounds_toArray, List.set_cons_zero, List.set_cons_succ, i64_w, i32_w]; rfl }
                                                  refine done_ (done_of HT_.out (by kernel_rfl)) ?_
                                                  try go_wp2
                                                  have n0_ := Aside0.mk (Kd.R_drew HO_1.out)
                                                  have n1_ := Aside0.mk (Kd.R_drew HO_5.out)
                                                  have n2_ := Aside0.mk (Kd.R_drew HO_10.out)
                                                  have n3_ := Aside0.mk (Kd.R_drew HO_78.out)
                                                  have n4_ := Aside0.mk (blk_drew BK216.out)
                                                  have n5_ := Aside0.mk (Kd.C_drew HR220.out)
                                                  have n6_ := Aside0.mk (below_drew1 HB.out)
                                                  clear HO_1
                                                  clear HO_5
                                                  clear HO_10
                                                  clear HO_78
                                                  clear BK216
                                                  clear HR220
                                                  clear HB
                                                  have HO_1 := n0_
                                                  have HO_5 := n1_
                                                  have HO_10 := n2_
                                                  have HO_78 := n3_
                                                  have BK216 := n4_
                                                  have HR220 := n5_
                                                  have HB := n6_
                                                  clear n0_ n1_ n2_ n3_ n4_ n5_ n6_
                                                  have q69 : (((rd_T64 t206 x80_2).f0) : Int) ≤ ((t202.length : Int) : Int) := of_decide_eq_true (by first | (with_reducible assumption) | assumption)
                                                  obtain ⟨i069, hi069, _, hsz69, _⟩ := info_parts info5
                                                  have hroom69 : t202.length ≤ co65 := (Kd.R_reads' HO_5.out).2.1
                                                  have hC69 : Kd.C (Kd.int .u8) _ Ao65 t202.length t202 := (Kd.R_reads' HO_5.out).2.2
                                                  have ql69 : (x9_2 : Int) ≤ (((rd_T64 t206 x80_2).f0) : Int) := of_decide_eq_true (by first | (with_reducible assumption) | assumption)
                                                  have q069 : (0 : Int) ≤ (x9_2 : Int) := of_decide_eq_true (by first | (with_reducible assumption) | assumption)
                                                  have hcut69 := cut_mid (P := Try.prog) 22 5 .i64 .i64 Try.underlying22 hi069 1 hsz69 Ao65 t202.length co65 x9_2 ((rd_T64 t206 x80_2).f0) q069 ql69 q69 hroom69
                                                  have hr69 := Kd.C_mid (lo := (x9_2 : Int).toNat) (hi := (((rd_T64 t206 x80_2).f0) : Int).toNat) (c := co65) hC69 (by omega) (by omega) hroom69
                                                  obtain ⟨A69, hA69⟩ : ∃ A1, A1 = (if co65 = (x9_2 : Int).toNat then Ao65 else (Ao65 : Option Addr).map (·.add ((x9_2 : Int).toNat * 1))) := ⟨_, rfl⟩
                                                  obtain ⟨c69, hc69⟩ : ∃ c1, c1 = co65 - (x9_2 : Int).toNat := ⟨_, rfl⟩
                                                  have hy69 : y222.length = (((rd_T64 t206 x80_2).f0) : Int).toNat - (x9_2 : Int).toNat := (by rw [Ny222.out, List.length_drop, List.length_take] <;> omega)
                                                  rw [show ((t202).take (((rd_T64 t206 x80_2).f0) : Int).toNat).drop (x9_2 : Int).toNat = y222 from Ny222.out.symm] at hr69
                                                  replace hr69 : Kd.C (Kd.int .u8) _ A69 y222.length y222 := (by rw [hA69]; exact hr69)
                                                  rw [← hy69, ← hA69, ← hc69] at hcut69
                                                  have HR225 := Aside0.mk hr69
                                                  have HC225 := Aside0.mk (show y222.length ≤ c69 from by rw [hy69, hc69]; exact Nat.sub_le_sub_right (Nat.le_trans (by omega) hroom69) _)
                                                  clear hr69 hC69 hroom69 hi069 hsz69 hc69
                                                  have KY69 := Aside0.mk hy69
                                                  have KA69 := Aside0.mk hA69
                                                  clear hy69 hA69
                                                  have KL69 := Aside0.mk (show (((rd_T64 t206 x80_2).f0) : Int).toNat ≤ t202.length from by omega)
                                                  have KM69 := Aside0.mk (show (x9_2 : Int).toNat ≤ (((rd_T64 t206 x80_2).f0) : Int).toNat from by omega)
                                                  replace q69 := eq_true q69
                                                  refine start_ (n := 11) (S := fun w' => w'.cell? ⟨gb216, 0, none⟩ = some (.int .i64 ((rd_T64 t206 x80_2).f0)) ∧ w'.cell? ⟨gb216, 1, none⟩ = some (.int .i64 ((rd_T64 t206 x80_2).f1)) ∧ w'.cell? ⟨gb216, 2, none⟩ = some (.string ((rd_T64 t206 x80_2).f2))) (ds := []) #[false, false, false, false, false, false, false, false, false, false, false] (by kernel_rfl) rfl rfl ⟨(blk_cell BK216.out 0).trans rfl, (blk_cell BK216.out 1).trans rfl, (blk_cell BK216.out 2).trans rfl⟩ (fun hHeld => ?_); refine with_tabW cavillaw04_EditBack.tab15 cavillaw04_EditBack.bits15 (fun HT_ HW_ => ?_)
                                                  generalize w64.drew = w68 at HO_1 HO_5 HO_10 HO_78 BK216 HR220 HB HR225 hHeld ⊢
                                                  refine pure_ (i := 0) (N := some 118) (v := ?_) (a' := ?_) #[true, false, false, false, false, false, false, false, false, false, false] rfl rfl (any_of HT_.out (by kernel_rfl)) (fun _ _ _ h => h) (Or.inl ⟨by rfl, ?_⟩) ?_ ?_; rotate_left; { intro w'; go_simp; with_reducible rfl }; rotate_left; { simp only [Act.put, List.setIfInBounds_toArray, List.set_cons_zero, List.set_cons_succ, i64_w, i32_w]; rfl }
                                                  refine pure_ (i := 1) (N := some 119) (v := ?_) (a' := ?_) #[true, true, false, false, false, false, false, false, false, false, false] rfl rfl (any_of HT_.out (by kernel_rfl)) (fun _ _ _ h => h) (Or.inl ⟨by rfl, ?_⟩) ?_ ?_; rotate_left; { intro w'; go_simp; with_reducible rfl }; rotate_left; { simp only [Act.put, List.setIfInBounds_toArray, List.set_cons_zero, List.set_cons_succ, i64_w, i32_w]; rfl }
                                                  refine pure_ (i := 2) (N := some 120) (v := ?_) (a' := ?_) #[true, true, true, false, false, false, false, false, false, false, false] rfl rfl (any_of HT_.out (by kernel_rfl)) (fun _ _ _ h => h) (Or.inl ⟨by rfl, ?_⟩) ?_ ?_; rotate_left; { intro w'; go_simp; with_reducible rfl }; rotate_left; { simp only [Act.put, List.setIfInBounds_toArray, List.set_cons_zero, List.set_cons_succ, i64_w, i32_w]; rfl }
                                                  refine pure_ (i := 3) (N := some 121) (v := ?_) (a' := ?_) #[true, true, true, true, false, false, false, false, false, false, false] rfl rfl (any_of HT_.out (by kernel_rfl)) (fun _ _ _ h => h) (Or.inl ⟨by rfl, ?_⟩) ?_ ?_; rotate_left; { intro w'; go_simp; with_reducible rfl }; rotate_left; { simp only [Act.put, List.setIfInBounds_toArray, List.set_cons_zero, List.set_cons_succ, i64_w, i32_w]; rfl }
                                                  refine pure_ (i := 7) (N := some 125) (v := ?_) (a' := ?_) #[true, true, true, true, false, false, false, true, false, false, false] rfl rfl (any_of HT_.out (by kernel_rfl)) (fun _ _ _ h => h) (Or.inl ⟨by rfl, ?_⟩) ?_ ?_; rotate_left; { intro w'; go_simp; with_reducible rfl }; rotate_left; { simp only [Act.put, List.setIfInBounds_toArray, List.set_cons_zero, List.set_cons_succ, i64_w, i32_w]; rfl }
                                                  refine take_ (i := 4) (N := some 122) (v := ?_) (a' := ?_) #[true, true, true, true, true, false, false, true, false, false, false] rfl rfl (take_ofW HT_.out HW_.out (by kernel_rfl)) (fun _ _ _ h => h) (Or.inl ⟨by rfl, ?_⟩) hHeld ?_ ?_; rotate_left; { rintro w' ⟨s0, s1, s2⟩; go_simp; with_reducible rfl }; rotate_left; { simp only [Act.put, List.setIfInBounds_toArray, List.set_cons_zero, List.set_cons_succ, i64_w, i32_w]; rfl }
                                                  refine pure_ (i := 5) (N := some 123) (v := ?_) (a' := ?_) #[true, true, true, true, true, true, false, true, false, false, false] rfl rfl (any_of HT_.out (by kernel_rfl)) (fun _ _ _ h => h) (Or.inl ⟨by rfl, ?_⟩) ?_ ?_; rotate_left; { intro w'; go_simp; with_reducible rfl }; rotate_left; { simp only [Act.put, List.setIfInBounds_toArray, List.set_cons_zero, List.set_cons_succ, i64_w, i32_w]; rfl }
                                                  refine take_ (i := 8) (N := some 126) (v := ?_) (a' := ?_) #[true, true, true, true, true, true, false, true, true, false, false] rfl rfl (take_ofW HT_.out HW_.out (by kernel_rfl)) (fun _ _ _ h => h) (Or.inl ⟨by rfl, ?_⟩) hHeld ?_ ?_; rotate_left; { rintro w' ⟨s0, s1, s2⟩; go_simp; with_reducible rfl }; rotate_left; { simp only [Act.put, List.setIfInBounds_toArray, List.set_cons_zero, List.set_cons_succ, i64_w, i32_w]; rfl }
                                                  refine one_ (i := 6) (N := some 124) #[true, true, true, true, true, true, true, true, true, false, false] rfl rfl (one_of HT_.out (by kernel_rfl)) (by decide) (fun K hK => ?_)
                                                  refine Kd.R_append_rows_step (Kd.int .u8) (w0 := w) w.heap.size (by rfl) (.tmp 118) (.tmp 123) 22 5 (.int .u8 0) 1 rfl Try.underlying22 info5 rfl (by decide) (by omega) u10 x10_2 y222 _ _ _ (fun k_ => some k_ ≠ (.slice Ao65 t202.length co65 : Value).ownBlock) (fun _ => False) rfl rfl ?aO ?aR (fun _ _ h => h) (fun _ h => h.elim) ?aF ?aB ?aS ?aL ?_
                                                  (case aR => repeat (first | exact (by repeat (first | (with_reducible exact HR225.out) | (with_reducible refine Kd.C_alloc ?_ _) | (with_reducible refine Kd.C_drewN ?_ _) | (with_reducible refine Kd.C_drew ?_) | exact HR225.out)) | (with_reducible refine Kd.C_alloc ?_ _) | (with_reducible refine Kd.C_drewN ?_ _) | (with_reducible refine Kd.C_drew ?_)))
                                                  (case aB => exact (by repeat (first | (with_reducible first | exact HB.out | apply below_alloc | apply pw_below_drewN | apply below_drew1 | refine below_set ?_ GE216.out) | exact HB.out)))
                                                  (case aF => exact (fun k_ hk => Kd.fresh' (Kd.R_lt (by (with_reducible repeat (first | apply Kd.R_alloc | apply Kd.R_drewN | apply Kd.R_drew)); exact HO_5.out)) k_ hk))
                                                  (case aO => exact (by (with_reducible repeat (first | apply Kd.R_alloc | apply Kd.R_drewN | apply Kd.R_drew)); exact HO_10.out))
                                                  (case aS => exact (below_size (by repeat (first | (with_reducible first | exact HB.out | apply below_alloc | apply pw_below_drewN | apply below_drew1 | refine below_set ?_ GE216.out) | exact HB.out))))
                                                  (case aL => have := LMc59.out; omega)
                                                  intro v227 w70 ho hb hg hat
                                                  rw [← Ny226.out] at ho
                                                  have n0_ := Aside0.mk (Kd.R_over' (by (with_reducible repeat (first | apply Kd.R_alloc | apply Kd.R_drewN | apply Kd.R_drew)); exact HO_1.out) (Kd.R_typed (by (with_reducible repeat (first | apply Kd.R_alloc | apply Kd.R_drewN | apply Kd.R_drew)); exact HO_10.out)) (by decide) hg)
                                                  have n1_ := Aside0.mk (Kd.R_after (ok := (fun _ => True)) (by (with_reducible repeat (first | apply Kd.R_alloc | apply Kd.R_drewN | apply Kd.R_drew)); exact Kd.R_mono HO_5.out (fun _ hk => ⟨trivial, hk⟩)) hg hat)
                                                  have n2_ := Aside0.mk (Kd.R_over' (by (with_reducible repeat (first | apply Kd.R_alloc | apply Kd.R_drewN | apply Kd.R_drew)); exact HO_78.out) (Kd.R_typed (by (with_reducible repeat (first | apply Kd.R_alloc | apply Kd.R_drewN | apply Kd.R_drew)); exact HO_10.out)) (by decide) hg)
                                                  have n3_ := Aside0.mk (blk_grown (g := gb216) (o := .cells #[.int .i64 ((rd_T64 t206 x80_2).f0), .int .i64 ((rd_T64 t206 x80_2).f1), .string ((rd_T64 t206 x80_2).f2)] 64 (0, 0)) (by (with_reducible repeat (first | refine blk_drewN ?_ _ | refine blk_drew ?_ | refine blk_alloc ?_ _)); exact BK216.out) hg (Kd.R_ne HO_10.out BK216.out (by decide)))
                                                  have n4_ := Aside0.mk (hb)
                                                  have n5_ := Aside0.mk ((show Kd.C (Kd.int .u8) w70 A66 y217.length y217 from by rw [Ny217.out, KA66.out]; exact Kd.C_mid (lo := (((rd_T64 t206 x80_2).f0) : Int).toNat) (hi := (((rd_T64 t206 x80_2).f1) : Int).toNat) (c := co65) ((Kd.R_reads' (Kd.R_after (ok := (fun _ => True)) (by (with_reducible repeat (first | apply Kd.R_alloc | apply Kd.R_drewN | apply Kd.R_drew)); exact Kd.R_mono HO_5.out (fun _ hk => ⟨trivial, hk⟩)) hg hat)).2.2) KM66.out KL66.out ((Kd.R_reads' (Kd.R_after (ok := (fun _ => True)) (by (with_reducible repeat (first | apply Kd.R_alloc | apply Kd.R_drewN | apply Kd.R_drew)); exact Kd.R_mono HO_5.out (fun _ hk => ⟨trivial, hk⟩)) hg hat)).2.1)))
                                                  have n6_ := Aside0.mk ((show Kd.C (Kd.int .u8) w70 A69 y222.length y222 from by rw [Ny222.out, KA69.out]; exact Kd.C_mid (lo := (x9_2 : Int).toNat) (hi := (((rd_T64 t206 x80_2).f0) : Int).toNat) (c := co65) ((Kd.R_reads' (Kd.R_after (ok := (fun _ => True)) (by (with_reducible repeat (first | apply Kd.R_alloc | apply Kd.R_drewN | apply Kd.R_drew)); exact Kd.R_mono HO_5.out (fun _ hk => ⟨trivial, hk⟩)) hg hat)).2.2) KM69.out KL69.out ((Kd.R_reads' (Kd.R_after (ok := (fun _ => True)) (by (with_reducible repeat (first | apply Kd.R_alloc | apply Kd.R_drewN | apply Kd.R_drew)); exact Kd.R_mono HO_5.out (fun _ hk => ⟨trivial, hk⟩)) hg hat)).2.1)))
                                                  have n7_ := Aside0.mk (ho)
                                                  clear HO_1
                                                  clear HO_5
                                                  clear HO_78
                                                  clear BK216
                                                  clear HB
                                                  clear HR220
                                                  clear HR225
                                                  clear HO_10
                                                  have HO_1 := n0_
                                                  have HO_5 := n1_
                                                  have HO_78 := n2_
                                                  have BK216 := n3_
                                                  have HB := n4_
                                                  have HR220 := n5_
                                                  have HR225 := n6_
                                                  have HO228 := n7_
                                                  clear n0_ n1_ n2_ n3_ n4_ n5_ n6_ n7_
                                                  clear ho hb hg hat
                                                  refine hK.out _ _ ⟨(blk_cell BK216.out 0).trans rfl, (blk_cell BK216.out 1).trans rfl, (blk_cell BK216.out 2).trans rfl⟩ (fun hHeld => ?_)
                                                  clear hK K
                                                  refine norm_ (a' := ?_) ?_ ?_; rotate_left; { show Act.put _ (some 124) _ = _; simp only [Act.put, List.setIfInBounds_toArray, List.set_cons_zero, List.set_cons_succ, i64_w, i32_w]; rfl }
                                                  refine one_ (i := 9) (N := some 127) #[true, true, true, true, true, true, true, true, true, true, false] rfl rfl (one_of HT_.out (by kernel_rfl)) (by decide) (fun K hK => ?_)
                                                  refine Kd.R_append_str_step (w0 := w) w.heap.size (by rfl) (.tmp 124) _ 22 9 5 rfl Try.underlying22 Try.underlying9 info5 v227 y226 ((rd_T64 t206 x80_2).f2) (fun k_ => some k_ ≠ (.slice Ao65 t202.length co65 : Value).ownBlock) rfl rfl ?aF ?aO ?aB ?aS ?aL ?_
                                                  (case aB => exact (by repeat (first | (with_reducible first | exact HB.out | apply below_alloc | apply pw_below_drewN | apply below_drew1 | refine below_set ?_ GE216.out) | exact HB.out)))
                                                  (case aF => exact (fun k_ hk => Kd.fresh' (Kd.R_lt (by (with_reducible repeat (first | apply Kd.R_alloc | apply Kd.R_drewN | apply Kd.R_drew)); exact HO_5.out)) k_ hk))
                                                  (case aO => exact (by (with_reducible repeat (first | apply Kd.R_alloc | apply Kd.R_drewN | apply Kd.R_drew)); exact HO228.out))
                                                  (case aS => exact (below_size (by repeat (first | (with_reducible first | exact HB.out | apply below_alloc | apply pw_below_drewN | apply below_drew1 | refine below_set ?_ GE216.out) | exact HB.out))))
                                                  (case aL => have := LMc60.out; omega)
                                                  intro v230 w71 ho hb hg hat
                                                  rw [← Ny229.out] at ho
                                                  have n0_ := Aside0.mk (Kd.R_over' (by (with_reducible repeat (first | apply Kd.R_alloc | apply Kd.R_drewN | apply Kd.R_drew)); exact HO_1.out) (Kd.R_typed (by (with_reducible repeat (first | apply Kd.R_alloc | apply Kd.R_drewN | apply Kd.R_drew)); exact HO228.out)) (by decide) hg)
                                                  have n1_ := Aside0.mk (Kd.R_after (ok := (fun _ => True)) (by (with_reducible repeat (first | apply Kd.R_alloc | apply Kd.R_drewN | apply Kd.R_drew)); exact HO_5.out) hg hat)
                                                  have n2_ := Aside0.mk (Kd.R_over' (by (with_reducible repeat (first | apply Kd.R_alloc | apply Kd.R_drewN | apply Kd.R_drew)); exact HO_78.out) (Kd.R_typed (by (with_reducible repeat (first | apply Kd.R_alloc | apply Kd.R_drewN | apply Kd.R_drew)); exact HO228.out)) (by decide) hg)
                                                  have n3_ := Aside0.mk (blk_grown (g := gb216) (o := .cells #[.int .i64 ((rd_T64 t206 x80_2).f0), .int .i64 ((rd_T64 t206 x80_2).f1), .string ((rd_T64 t206 x80_2).f2)] 64 (0, 0)) (by (with_reducible repeat (first | refine blk_drewN ?_ _ | refine blk_drew ?_ | refine blk_alloc ?_ _)); exact BK216.out) hg (Kd.R_ne HO228.out BK216.out (by decide)))
                                                  have n4_ := Aside0.mk (hb)
                                                  have n5_ := Aside0.mk ((show Kd.C (Kd.int .u8) w71 A66 y217.length y217 from by rw [Ny217.out, KA66.out]; exact Kd.C_mid (lo := (((rd_T64 t206 x80_2).f0) : Int).toNat) (hi := (((rd_T64 t206 x80_2).f1) : Int).toNat) (c := co65) ((Kd.R_reads' (Kd.R_after (ok := (fun _ => True)) (by (with_reducible repeat (first | apply Kd.R_alloc | apply Kd.R_drewN | apply Kd.R_drew)); exact HO_5.out) hg hat)).2.2) KM66.out KL66.out ((Kd.R_reads' (Kd.R_after (ok := (fun _ => True)) (by (with_reducible repeat (first | apply Kd.R_alloc | apply Kd.R_drewN | apply Kd.R_drew)); exact HO_5.out) hg hat)).2.1)))
                                                  have n6_ := Aside0.mk ((show Kd.C (Kd.int .u8) w71 A69 y222.length y222 from by rw [Ny222.out, KA69.out]; exact Kd.C_mid (lo := (x9_2 : Int).toNat) (hi := (((rd_T64 t206 x80_2).f0) : Int).toNat) (c := co65) ((Kd.R_reads' (Kd.R_after (ok := (fun _ => True)) (by (with_reducible repeat (first | apply Kd.R_alloc | apply Kd.R_drewN | apply Kd.R_drew)); exact HO_5.out) hg hat)).2.2) KM69.out KL69.out ((Kd.R_reads' (Kd.R_after (ok := (fun _ => True)) (by (with_reducible repeat (first | apply Kd.R_alloc | apply Kd.R_drewN | apply Kd.R_drew)); exact HO_5.out) hg hat)).2.1)))
                                                  have n7_ := Aside0.mk (ho)
                                                  clear HO_1
                                                  clear HO_5
                                                  clear HO_78
                                                  clear BK216
                                                  clear HB
                                                  clear HR220
                                                  clear HR225
                                                  clear HO228
                                                  have HO_1 := n0_
                                                  have HO_5 := n1_
                                                  have HO_78 := n2_
                                                  have BK216 := n3_
                                                  have HB := n4_
                                                  have HR220 := n5_
                                                  have HR225 := n6_
                                                  have HO231 := n7_
                                                  clear n0_ n1_ n2_ n3_ n4_ n5_ n6_ n7_
                                                  clear ho hb hg hat
                                                  refine hK.out _ _ ⟨(blk_cell BK216.out 0).trans rfl, (blk_cell BK216.out 1).trans rfl, (blk_cell BK216.out 2).trans rfl⟩ (fun hHeld => ?_)
                                                  clear hK K
                                                  refine norm_ (a' := ?_) ?_ ?_; rotate_left; { show Act.put _ (some 127) _ = _; simp only [Act.put, List.setIfInBounds_toArray, List.set_cons_zero, List.set_cons_succ, i64_w, i32_w]; rfl }
                                                  refine pure_ (i := 10) (N := some 10) (v := ?_) (a' := ?_) #[true, true, true, true, true, true, true, true, true, true, true] rfl rfl (any_of HT_.out (by kernel_rfl)) (fun _ _ _ h => h) (Or.inl ⟨by rfl, ?_⟩) ?_ ?_; rotate_left; { intro w'; go_simp; with_reducible rfl }; rotate_left; { simp only [Act.put, List.setIfInBounds_toArray, List.set_cons_zero, List.set_cons_succ, i64_w, i32_w]; rfl }
                                                  refine done_ (done_of HT_.out (by kernel_rfl)) ?_
                                                  have hcz72_0 : w71.cell? ⟨gb216, 0, none⟩ = some (.int .i64 ((rd_T64 t206 x80_2).f0)) := (blk_cell BK216.out 0).trans rfl
                                                  have hcz72_1 : w71.cell? ⟨gb216, 1, none⟩ = some (.int .i64 ((rd_T64 t206 x80_2).f1)) := (blk_cell BK216.out 1).trans rfl
                                                  have hcz72_2 : w71.cell? ⟨gb216, 2, none⟩ = some (.string ((rd_T64 t206 x80_2).f2)) := (blk_cell BK216.out 2).trans rfl
                                                  have hfz72_0 := blk_frozen BK216.out 0
                                                  have hfz72_1 := blk_frozen BK216.out 1
                                                  have hfz72_2 := blk_frozen BK216.out 2
                                                  try go_wp2
                                                  go_roundg k2
                                                  case measure => have := HJ8.out; have := HK2.out; omega
                                                  case rel => exact ⟨((rd_T64 t206 x80_2).f1), (y229), (wrap64 (x80_2 + 1)), (by first | rfl | (simp; done) | (simp [*]; done)), (by first | rfl | (simp; done) | (simp [*]; done)), H', ⟨by have := HJ8.out; have := HK2.out; omega⟩, ⟨by (with_reducible repeat (first | apply Kd.R_alloc | apply Kd.R_drewN | apply Kd.R_drew)); exact Kd.R_mono HO_1.out (fun _ hk => hk.1)⟩, ⟨by (with_reducible repeat (first | apply Kd.R_alloc | apply Kd.R_drewN | apply Kd.R_drew)); exact Kd.R_mono HO_5.out (fun _ hk => hk.2)⟩, ⟨by (with_reducible repeat (first | apply Kd.R_alloc | apply Kd.R_drewN | apply Kd.R_drew)); exact HO231.out⟩, ⟨by (with_reducible repeat (first | apply Kd.R_alloc | apply Kd.R_drewN | apply Kd.R_drew)); exact Kd.R_mono HO_78.out (fun _ hk => hk.1)⟩, ⟨by repeat (first | (with_reducible first | exact HB.out | apply below_alloc | apply pw_below_drewN | apply below_drew1 | refine below_set ?_ GE216.out) | exact HB.out)⟩⟩
                                                · rw [if_neg c60] at H
                                                  exact absurd H (by simp)
                                              · rw [if_neg c59] at H
                                                exact absurd H (by simp)
                                            · rw [if_neg c58] at H
                                              exact absurd H (by simp)
                                          · rw [if_neg c57] at H
                                            exact absurd H (by simp)
                                        · rw [if_neg c56] at H
                                          exact absurd H (by simp)
                                      · rw [if_neg c55] at H
                                        have c55b0 : ((strOfNums y217).toList == ((rd_T64 t199 x80_2).f2).toList) = false := beq_eq_false_iff_ne.mpr c55
                                        have c55b1 : ((strOfNums y217).toList != ((rd_T64 t199 x80_2).f2).toList) = true := bne_iff_ne.mpr c55
                                        obtain rfl := Option.some.inj H
                                        have p215 : 0 ≤ (x80_2 : Int) := of_decide_eq_true (by first | (with_reducible assumption) | assumption)
                                        have q215 : x80_2 < (t206.length : Int) := of_decide_eq_true (by first | (with_reducible assumption) | assumption)
                                        obtain ⟨ad215, e215, hx215_0, hx215_1, hx215_2⟩ := at_T64 (Kd.R_reads' HO_78.out).2.2 x80_2 p215 q215
                                        cases e215
                                        replace p215 := eq_true p215
                                        replace q215 := eq_true q215
                                        try go_wp2_with (first | ((with_reducible refine gate_dst (N := 12) rfl ?_); (try (refine gate_guard (by rfl) ?_; dsimp only)); refine box_event ?hg (N := 12) ?hd (cs := #[.int .i64 0, .int .i64 0, .string (⟨#[]⟩ : ByteArray)]) (t := 64) ?hr ?_; (case hd => rfl); (case hg => rfl); (case hr => first | (go_simp; done) | (go_simp; rfl)); intro gb216 hg w73 hbox hb; have n0_ := Aside0.mk (Kd.R_below (Kd.R_elderB (by (with_reducible repeat (first | apply Kd.R_alloc | apply Kd.R_drewN | apply Kd.R_drew)); exact HO_1.out) gb216 (Nat.le_of_eq hg.symm)) hb); have n1_ := Aside0.mk (Kd.R_below (by (with_reducible repeat (first | apply Kd.R_alloc | apply Kd.R_drewN | apply Kd.R_drew)); exact HO_5.out) hb); have n2_ := Aside0.mk (Kd.R_below (by (with_reducible repeat (first | apply Kd.R_alloc | apply Kd.R_drewN | apply Kd.R_drew)); exact HO_10.out) hb); have n3_ := Aside0.mk (Kd.R_below (Kd.R_elderB (by (with_reducible repeat (first | apply Kd.R_alloc | apply Kd.R_drewN | apply Kd.R_drew)); exact HO_78.out) gb216 (Nat.le_of_eq hg.symm)) hb); have n4_ := Aside0.mk (below_step (by repeat (first | (with_reducible first | exact HB.out | apply below_alloc | apply pw_below_drewN | apply below_drew1) | exact HB.out)) hb); have n5_ := Aside0.mk (hbox); have n6_ := Aside0.mk ((by rw [hg]; exact (below_size (by repeat (first | (with_reducible first | exact HB.out | apply below_alloc | apply pw_below_drewN | apply below_drew1) | exact HB.out))) : w.heap.size ≤ gb216)); have n7_ := Aside0.mk ((by rw [hg]; exact (below_size (by repeat (first | (with_reducible first | exact HB.out | apply below_alloc | apply pw_below_drewN | apply below_drew1) | exact HB.out))) : w.heap.size ≤ gb216)); clear HO_1; clear HO_5; clear HO_10; clear HO_78; clear HB; have HO_1 := n0_; have HO_5 := n1_; have HO_10 := n2_; have HO_78 := n3_; have HB := n4_; have BK216 := n5_; have GW216 := n6_; have GE216 := n7_; clear n0_ n1_ n2_ n3_ n4_ n5_ n6_ n7_; clear hb hbox hg; have hcz74_0 : w73.cell? ⟨gb216, 0, none⟩ = some (.int .i64 0) := (blk_cell BK216.out 0).trans rfl; have hcz74_1 : w73.cell? ⟨gb216, 1, none⟩ = some (.int .i64 0) := (blk_cell BK216.out 1).trans rfl; have hcz74_2 : w73.cell? ⟨gb216, 2, none⟩ = some (.string (⟨#[]⟩ : ByteArray)) := (blk_cell BK216.out 2).trans rfl; have hfz74_0 := blk_frozen BK216.out 0; have hfz74_1 := blk_frozen BK216.out 1; have hfz74_2 := blk_frozen BK216.out 2))
                                        have n0_ : Aside0 (Kd.R k64 64 (((w73.setCell ⟨gb216, 0, none⟩ (.int .i64 ((rd_T64 t206 x80_2).f0))).setCell ⟨gb216, 1, none⟩ (.int .i64 ((rd_T64 t206 x80_2).f1))).setCell ⟨gb216, 2, none⟩ (.string ((rd_T64 t206 x80_2).f2))) w.heap.size (fun k_ => some k_ ≠ (.slice (some ad215) t206.length co31 : Value).ownBlock ∧ k_ ≠ gb216) (.slice Ao13 t199.length co13) t199) := ⟨by (with_reducible repeat (first | apply Kd.R_alloc | apply Kd.R_drewN | apply Kd.R_drew)); exact Kd.R_mono (Kd.R_far (p := ⟨gb216, 2, none⟩) (Kd.R_far (p := ⟨gb216, 1, none⟩) (Kd.R_far (p := ⟨gb216, 0, none⟩) (Kd.R_mono HO_1.out (fun k_ hk => (⟨hk, hk.2⟩ : _ ∧ k_ ≠ gb216))) (fun _ hk => hk.2) (.int .i64 ((rd_T64 t206 x80_2).f0))) (fun _ hk => hk.2) (.int .i64 ((rd_T64 t206 x80_2).f1))) (fun _ hk => hk.2) (.string ((rd_T64 t206 x80_2).f2))) (fun _ hk => ⟨hk.1.1, hk.1.2⟩)⟩
                                        have n1_ : Aside0 (Kd.R (Kd.int .u8) 5 (((w73.setCell ⟨gb216, 0, none⟩ (.int .i64 ((rd_T64 t206 x80_2).f0))).setCell ⟨gb216, 1, none⟩ (.int .i64 ((rd_T64 t206 x80_2).f1))).setCell ⟨gb216, 2, none⟩ (.string ((rd_T64 t206 x80_2).f2))) w.heap.size (fun k_ => some k_ ≠ (u10 : Value).ownBlock) v204 t202) := ⟨by (with_reducible repeat (first | apply Kd.R_alloc | apply Kd.R_drewN | apply Kd.R_drew)); exact Kd.R_mono (Kd.R_far (p := ⟨gb216, 2, none⟩) (Kd.R_far (p := ⟨gb216, 1, none⟩) (Kd.R_far (p := ⟨gb216, 0, none⟩) (Kd.R_types HO_5.out BK216.out (by decide)) (fun _ hk => hk.2) (.int .i64 ((rd_T64 t206 x80_2).f0))) (fun _ hk => hk.2) (.int .i64 ((rd_T64 t206 x80_2).f1))) (fun _ hk => hk.2) (.string ((rd_T64 t206 x80_2).f2))) (fun _ hk => hk.1)⟩
                                        have n2_ : Aside0 (Kd.R (Kd.int .u8) 5 (((w73.setCell ⟨gb216, 0, none⟩ (.int .i64 ((rd_T64 t206 x80_2).f0))).setCell ⟨gb216, 1, none⟩ (.int .i64 ((rd_T64 t206 x80_2).f1))).setCell ⟨gb216, 2, none⟩ (.string ((rd_T64 t206 x80_2).f2))) w.heap.size (fun k_ => some k_ ≠ (v204 : Value).ownBlock) u10 x10_2) := ⟨by (with_reducible repeat (first | apply Kd.R_alloc | apply Kd.R_drewN | apply Kd.R_drew)); exact Kd.R_mono (Kd.R_far (p := ⟨gb216, 2, none⟩) (Kd.R_far (p := ⟨gb216, 1, none⟩) (Kd.R_far (p := ⟨gb216, 0, none⟩) (Kd.R_types HO_10.out BK216.out (by decide)) (fun _ hk => hk.2) (.int .i64 ((rd_T64 t206 x80_2).f0))) (fun _ hk => hk.2) (.int .i64 ((rd_T64 t206 x80_2).f1))) (fun _ hk => hk.2) (.string ((rd_T64 t206 x80_2).f2))) (fun _ hk => hk.1)⟩
                                        have n3_ : Aside0 (Kd.R k64 64 (((w73.setCell ⟨gb216, 0, none⟩ (.int .i64 ((rd_T64 t206 x80_2).f0))).setCell ⟨gb216, 1, none⟩ (.int .i64 ((rd_T64 t206 x80_2).f1))).setCell ⟨gb216, 2, none⟩ (.string ((rd_T64 t206 x80_2).f2))) w.heap.size (fun k_ => some k_ ≠ (.slice Ao13 t199.length co13 : Value).ownBlock ∧ k_ ≠ gb216) (.slice (some ad215) t206.length co31) t206) := ⟨by (with_reducible repeat (first | apply Kd.R_alloc | apply Kd.R_drewN | apply Kd.R_drew)); exact Kd.R_mono (Kd.R_far (p := ⟨gb216, 2, none⟩) (Kd.R_far (p := ⟨gb216, 1, none⟩) (Kd.R_far (p := ⟨gb216, 0, none⟩) (Kd.R_mono HO_78.out (fun k_ hk => (⟨hk, hk.2⟩ : _ ∧ k_ ≠ gb216))) (fun _ hk => hk.2) (.int .i64 ((rd_T64 t206 x80_2).f0))) (fun _ hk => hk.2) (.int .i64 ((rd_T64 t206 x80_2).f1))) (fun _ hk => hk.2) (.string ((rd_T64 t206 x80_2).f2))) (fun _ hk => ⟨hk.1.1, hk.1.2⟩)⟩
                                        have n4_ : Aside0 ((((w73.setCell ⟨gb216, 0, none⟩ (.int .i64 ((rd_T64 t206 x80_2).f0))).setCell ⟨gb216, 1, none⟩ (.int .i64 ((rd_T64 t206 x80_2).f1))).setCell ⟨gb216, 2, none⟩ (.string ((rd_T64 t206 x80_2).f2))).heap[gb216]? = some (.cells #[.int .i64 ((rd_T64 t206 x80_2).f0), .int .i64 ((rd_T64 t206 x80_2).f1), .string ((rd_T64 t206 x80_2).f2)] 64 (0, 0))) := ⟨by (with_reducible repeat (first | refine blk_drewN ?_ _ | refine blk_drew ?_ | refine blk_alloc ?_ _)); refine blk_put (cs := #[.int .i64 ((rd_T64 t206 x80_2).f0), .int .i64 ((rd_T64 t206 x80_2).f1), .string (⟨#[]⟩ : ByteArray)]) ?_ 2 _ rfl; (with_reducible repeat (first | refine blk_drewN ?_ _ | refine blk_drew ?_ | refine blk_alloc ?_ _)); refine blk_put (cs := #[.int .i64 ((rd_T64 t206 x80_2).f0), .int .i64 0, .string (⟨#[]⟩ : ByteArray)]) ?_ 1 _ rfl; (with_reducible repeat (first | refine blk_drewN ?_ _ | refine blk_drew ?_ | refine blk_alloc ?_ _)); refine blk_put (cs := #[.int .i64 0, .int .i64 0, .string (⟨#[]⟩ : ByteArray)]) ?_ 0 _ rfl; (with_reducible repeat (first | refine blk_drewN ?_ _ | refine blk_drew ?_ | refine blk_alloc ?_ _)); exact BK216.out⟩
                                        have n5_ : Aside0 (Below w.heap.size w (((w73.setCell ⟨gb216, 0, none⟩ (.int .i64 ((rd_T64 t206 x80_2).f0))).setCell ⟨gb216, 1, none⟩ (.int .i64 ((rd_T64 t206 x80_2).f1))).setCell ⟨gb216, 2, none⟩ (.string ((rd_T64 t206 x80_2).f2)))) := ⟨by repeat (first | (with_reducible first | exact HB.out | apply below_alloc | apply pw_below_drewN | apply below_drew1 | refine below_set ?_ GE216.out) | exact HB.out)⟩
                                        (try clear HO_1)
                                        (try clear HO_5)
                                        (try clear HO_10)
                                        (try clear HO_78)
                                        (try clear BK216)
                                        (try clear HB)
                                        generalize (((w73.setCell ⟨gb216, 0, none⟩ (.int .i64 ((rd_T64 t206 x80_2).f0))).setCell ⟨gb216, 1, none⟩ (.int .i64 ((rd_T64 t206 x80_2).f1))).setCell ⟨gb216, 2, none⟩ (.string ((rd_T64 t206 x80_2).f2))) = w75 at n0_ n1_ n2_ n3_ n4_ n5_ ⊢
                                        have HO_1 := n0_
                                        have HO_5 := n1_
                                        have HO_10 := n2_
                                        have HO_78 := n3_
                                        have BK216 := n4_
                                        have HB := n5_
                                        clear n0_ n1_ n2_ n3_ n4_ n5_
                                        have n0_ := Aside0.mk (Kd.R_drew HO_1.out)
                                        have n1_ := Aside0.mk (Kd.R_drew HO_5.out)
                                        have n2_ := Aside0.mk (Kd.R_drew HO_10.out)
                                        have n3_ := Aside0.mk (Kd.R_drew HO_78.out)
                                        have n4_ := Aside0.mk (blk_drew BK216.out)
                                        have n5_ := Aside0.mk (below_drew1 HB.out)
                                        clear HO_1
                                        clear HO_5
                                        clear HO_10
                                        clear HO_78
                                        clear BK216
                                        clear HB
                                        have HO_1 := n0_
                                        have HO_5 := n1_
                                        have HO_10 := n2_
                                        have HO_78 := n3_
                                        have BK216 := n4_
                                        have HB := n5_
                                        clear n0_ n1_ n2_ n3_ n4_ n5_
                                        obtain ⟨Ao77, co77, eo77⟩ := Kd.R_slice HO_5.out
                                        (first | subst eo77 | (injection eo77 with f1_ f2_ f3_; have f4_ := f1_.symm; have f5_ := f3_.symm; clear f1_ f2_ f3_; subst f4_; subst f5_))
                                        have q78 : (((rd_T64 t206 x80_2).f1) : Int) ≤ ((t202.length : Int) : Int) := of_decide_eq_true (by first | (with_reducible assumption) | assumption)
                                        obtain ⟨i078, hi078, _, hsz78, _⟩ := info_parts info5
                                        have hroom78 : t202.length ≤ co77 := (Kd.R_reads' HO_5.out).2.1
                                        have hC78 : Kd.C (Kd.int .u8) _ Ao77 t202.length t202 := (Kd.R_reads' HO_5.out).2.2
                                        have ql78 : (((rd_T64 t206 x80_2).f0) : Int) ≤ (((rd_T64 t206 x80_2).f1) : Int) := of_decide_eq_true (by first | (with_reducible assumption) | assumption)
                                        have q078 : (0 : Int) ≤ (((rd_T64 t206 x80_2).f0) : Int) := of_decide_eq_true (by first | (with_reducible assumption) | assumption)
                                        have hcut78 := cut_mid (P := Try.prog) 22 5 .i64 .i64 Try.underlying22 hi078 1 hsz78 Ao77 t202.length co77 ((rd_T64 t206 x80_2).f0) ((rd_T64 t206 x80_2).f1) q078 ql78 q78 hroom78
                                        have hr78 := Kd.C_mid (lo := (((rd_T64 t206 x80_2).f0) : Int).toNat) (hi := (((rd_T64 t206 x80_2).f1) : Int).toNat) (c := co77) hC78 (by omega) (by omega) hroom78
                                        obtain ⟨A78, hA78⟩ : ∃ A1, A1 = (if co77 = (((rd_T64 t206 x80_2).f0) : Int).toNat then Ao77 else (Ao77 : Option Addr).map (·.add ((((rd_T64 t206 x80_2).f0) : Int).toNat * 1))) := ⟨_, rfl⟩
                                        obtain ⟨c78, hc78⟩ : ∃ c1, c1 = co77 - (((rd_T64 t206 x80_2).f0) : Int).toNat := ⟨_, rfl⟩
                                        have hy78 : y217.length = (((rd_T64 t206 x80_2).f1) : Int).toNat - (((rd_T64 t206 x80_2).f0) : Int).toNat := (by rw [Ny217.out, List.length_drop, List.length_take] <;> omega)
                                        rw [show ((t202).take (((rd_T64 t206 x80_2).f1) : Int).toNat).drop (((rd_T64 t206 x80_2).f0) : Int).toNat = y217 from Ny217.out.symm] at hr78
                                        replace hr78 : Kd.C (Kd.int .u8) _ A78 y217.length y217 := (by rw [hA78]; exact hr78)
                                        rw [← hy78, ← hA78, ← hc78] at hcut78
                                        have HR220 := Aside0.mk hr78
                                        have HC220 := Aside0.mk (show y217.length ≤ c78 from by rw [hy78, hc78]; exact Nat.sub_le_sub_right (Nat.le_trans (by omega) hroom78) _)
                                        clear hr78 hC78 hroom78 hi078 hsz78 hc78
                                        have KY78 := Aside0.mk hy78
                                        have KA78 := Aside0.mk hA78
                                        clear hy78 hA78
                                        have KL78 := Aside0.mk (show (((rd_T64 t206 x80_2).f1) : Int).toNat ≤ t202.length from by omega)
                                        have KM78 := Aside0.mk (show (((rd_T64 t206 x80_2).f0) : Int).toNat ≤ (((rd_T64 t206 x80_2).f1) : Int).toNat from by omega)
                                        replace q78 := eq_true q78
                                        have p221 : 0 ≤ (x80_2 : Int) := of_decide_eq_true (by first | (with_reducible assumption) | assumption)
                                        have q221 : x80_2 < (t199.length : Int) := of_decide_eq_true (by first | (with_reducible assumption) | assumption)
                                        obtain ⟨ad221, e221, hx221_0, hx221_1, hx221_2⟩ := at_T64 (Kd.R_reads' HO_1.out).2.2 x80_2 p221 q221
                                        cases e221
                                        replace p221 := eq_true p221
                                        replace q221 := eq_true q221
                                        refine start_ (n := 33) (S := fun w' => w'.cell? ⟨gb216, 0, none⟩ = some (.int .i64 ((rd_T64 t206 x80_2).f0)) ∧ w'.cell? ⟨gb216, 1, none⟩ = some (.int .i64 ((rd_T64 t206 x80_2).f1)) ∧ w'.cell? ⟨gb216, 2, none⟩ = some (.string ((rd_T64 t206 x80_2).f2)) ∧ w'.cell? (ad221.add ((x80_2).toNat * 3)) = some (.int .i64 ((rd_T64 t199 x80_2).f0)) ∧ w'.cell? ⟨(ad221.add ((x80_2).toNat * 3)).block, (ad221.add ((x80_2).toNat * 3)).off + 1, none⟩ = some (.int .i64 ((rd_T64 t199 x80_2).f1)) ∧ w'.cell? ⟨(ad221.add ((x80_2).toNat * 3)).block, (ad221.add ((x80_2).toNat * 3)).off + 2, none⟩ = some (.string ((rd_T64 t199 x80_2).f2))) (ds := []) #[false, false, false, false, false, false, false, false, false, false, false, false, false, false, false, false, false, false, false, false, false, false, false, false, false, false, false, false, false, false, false, false, false] (by kernel_rfl) rfl rfl ⟨(blk_cell BK216.out 0).trans rfl, (blk_cell BK216.out 1).trans rfl, (blk_cell BK216.out 2).trans rfl, hx221_0, hx221_1, hx221_2⟩ (fun hHeld => ?_); refine with_tabW cavillaw04_EditBack.tab13 cavillaw04_EditBack.bits13 (fun HT_ HW_ => ?_)
                                        generalize w75.drew = w76 at HO_1 HO_5 HO_10 HO_78 BK216 HB HR220 hx221_0 hx221_1 hx221_2 hHeld ⊢
                                        refine pure_ (i := 0) (N := some 85) (v := ?_) (a' := ?_) (bl_ 33 1) rfl rfl (any_of HT_.out (by kernel_rfl)) (fun _ _ _ h => h) (Or.inl ⟨by rfl, ?_⟩) ?_ ?_; rotate_left; { intro w'; go_simp; with_reducible rfl }; rotate_left; { simp only [Act.put, List.setIfInBounds_toArray, List.set_cons_zero, List.set_cons_succ, i64_w, i32_w]; rfl }
                                        refine pure_ (i := 2) (N := some 87) (v := ?_) (a' := ?_) (bl_ 33 5) rfl rfl (any_of HT_.out (by kernel_rfl)) (fun _ _ _ h => h) (Or.inl ⟨by rfl, ?_⟩) ?_ ?_; rotate_left; { intro w'; go_simp; with_reducible rfl }; rotate_left; { simp only [Act.put, List.setIfInBounds_toArray, List.set_cons_zero, List.set_cons_succ, i64_w, i32_w]; rfl }
                                        refine take_ (i := 1) (N := some 86) (v := ?_) (a' := ?_) (bl_ 33 7) rfl rfl (take_ofW HT_.out HW_.out (by kernel_rfl)) (fun _ _ _ h => h) (Or.inl ⟨by rfl, ?_⟩) hHeld ?_ ?_; rotate_left; { rintro w' ⟨s0, s1, s2, s3, s4, s5⟩; go_simp; with_reducible rfl }; rotate_left; { simp only [Act.put, List.setIfInBounds_toArray, List.set_cons_zero, List.set_cons_succ, i64_w, i32_w]; rfl }
                                        refine pure_ (i := 3) (N := some 88) (v := ?_) (a' := ?_) (bl_ 33 15) rfl rfl (any_of HT_.out (by kernel_rfl)) (fun _ _ _ h => h) (Or.inl ⟨by rfl, ?_⟩) ?_ ?_; rotate_left; { intro w'; go_simp; with_reducible rfl }; rotate_left; { simp only [Act.put, List.setIfInBounds_toArray, List.set_cons_zero, List.set_cons_succ, i64_w, i32_w]; rfl }
                                        refine pure_ (i := 4) (N := some 89) (v := ?_) (a' := ?_) (bl_ 33 31) rfl rfl (any_of HT_.out (by kernel_rfl)) (fun _ _ _ h => h) (Or.inl ⟨by rfl, ?_⟩) ?_ ?_; rotate_left; { intro w'; go_simp; with_reducible rfl }; rotate_left; { simp only [Act.put, List.setIfInBounds_toArray, List.set_cons_zero, List.set_cons_succ, i64_w, i32_w]; rfl }
                                        refine pure_ (i := 5) (N := some 90) (v := ?_) (a' := ?_) (bl_ 33 63) rfl rfl (any_of HT_.out (by kernel_rfl)) (fun _ _ _ h => h) (Or.inl ⟨by rfl, ?_⟩) ?_ ?_; rotate_left; { intro w'; go_simp; with_reducible rfl }; rotate_left; { simp only [Act.put, List.setIfInBounds_toArray, List.set_cons_zero, List.set_cons_succ, i64_w, i32_w]; rfl }
                                        refine pure_ (i := 7) (N := some 92) (v := ?_) (a' := ?_) (bl_ 33 191) rfl rfl (any_of HT_.out (by kernel_rfl)) (fun _ _ _ h => h) (Or.inl ⟨by rfl, ?_⟩) ?_ ?_; rotate_left; { intro w'; go_simp; with_reducible rfl }; rotate_left; { simp only [Act.put, List.setIfInBounds_toArray, List.set_cons_zero, List.set_cons_succ, i64_w, i32_w]; rfl }
                                        refine take_ (i := 6) (N := some 91) (v := ?_) (a' := ?_) (bl_ 33 255) rfl rfl (take_ofW HT_.out HW_.out (by kernel_rfl)) (fun _ _ _ h => h) (Or.inl ⟨by rfl, ?_⟩) hHeld ?_ ?_; rotate_left; { rintro w' ⟨s0, s1, s2, s3, s4, s5⟩; go_simp; with_reducible rfl }; rotate_left; { simp only [Act.put, List.setIfInBounds_toArray, List.set_cons_zero, List.set_cons_succ, i64_w, i32_w]; rfl }
                                        refine take_ (i := 8) (N := some 93) (v := ?_) (a' := ?_) (bl_ 33 511) rfl rfl (take_ofW HT_.out HW_.out (by kernel_rfl)) (fun _ _ _ h => h) (Or.inl ⟨by rfl, ?_⟩) hHeld ?_ ?_; rotate_left; { rintro w' ⟨s0, s1, s2, s3, s4, s5⟩; go_simp; with_reducible rfl }; rotate_left; { simp only [Act.put, List.setIfInBounds_toArray, List.set_cons_zero, List.set_cons_succ, i64_w, i32_w]; rfl }
                                        refine pure_ (i := 9) (N := some 94) (v := ?_) (a' := ?_) (bl_ 33 1023) rfl rfl (any_of HT_.out (by kernel_rfl)) (fun _ _ _ h => h) (Or.inl ⟨by rfl, ?_⟩) ?_ ?_; rotate_left; { intro w'; go_simp; with_reducible rfl }; rotate_left; { simp only [Act.put, List.setIfInBounds_toArray, List.set_cons_zero, List.set_cons_succ, i64_w, i32_w]; rfl }
                                        refine pure_ (i := 10) (N := some 95) (v := ?_) (a' := ?_) (bl_ 33 2047) rfl rfl (any_of HT_.out (by kernel_rfl)) (fun _ _ _ h => h) (Or.inl ⟨by rfl, ?_⟩) ?_ ?_; rotate_left; { intro w'; go_simp; with_reducible rfl }; rotate_left; { simp only [Act.put, List.setIfInBounds_toArray, List.set_cons_zero, List.set_cons_succ, i64_w, i32_w]; rfl }
                                        refine pure_ (i := 11) (N := some 96) (v := ?_) (a' := ?_) (bl_ 33 4095) rfl rfl (any_of HT_.out (by kernel_rfl)) (fun _ _ _ h => h) (Or.inl ⟨by rfl, ?_⟩) ?_ ?_; rotate_left; { intro w'; go_simp; with_reducible rfl }; rotate_left; { simp only [Act.put, List.setIfInBounds_toArray, List.set_cons_zero, List.set_cons_succ, i64_w, i32_w]; rfl }
                                        refine pure_ (i := 12) (N := some 97) (v := ?_) (a' := ?_) (bl_ 33 8191) rfl rfl (any_of HT_.out (by kernel_rfl)) (fun _ _ _ h => h) (Or.inl ⟨by rfl, ?_⟩) ?_ ?_; rotate_left; { intro w'; go_simp; with_reducible rfl }; rotate_left; { simp only [Act.put, List.setIfInBounds_toArray, List.set_cons_zero, List.set_cons_succ, i64_w, i32_w]; rfl }
                                        refine pure_ (i := 14) (N := some 99) (v := ?_) (a' := ?_) (bl_ 33 24575) rfl rfl (any_of HT_.out (by kernel_rfl)) (fun _ _ _ h => h) (Or.inl ⟨by rfl, ?_⟩) ?_ ?_; rotate_left; { intro w'; go_simp; with_reducible rfl }; rotate_left; { simp only [Act.put, List.setIfInBounds_toArray, List.set_cons_zero, List.set_cons_succ, i64_w, i32_w]; rfl }
                                        refine pure_ (i := 15) (N := some 100) (v := ?_) (a' := ?_) (bl_ 33 57343) rfl rfl (any_of HT_.out (by kernel_rfl)) (fun _ _ _ h => h) (Or.inl ⟨by rfl, ?_⟩) ?_ ?_; rotate_left; { intro w'; go_simp; with_reducible rfl }; rotate_left; { simp only [Act.put, List.setIfInBounds_toArray, List.set_cons_zero, List.set_cons_succ, i64_w, i32_w]; rfl }
                                        refine take_ (i := 13) (N := some 98) (v := ?_) (a' := ?_) (bl_ 33 65535) rfl rfl (take_ofW HT_.out HW_.out (by kernel_rfl)) (fun _ _ _ h => h) (Or.inl ⟨by rfl, ?_⟩) hHeld ?_ ?_; rotate_left; { rintro w' ⟨s0, s1, s2, s3, s4, s5⟩; go_simp; with_reducible rfl }; rotate_left; { simp only [Act.put, List.setIfInBounds_toArray, List.set_cons_zero, List.set_cons_succ, i64_w, i32_w]; rfl }
                                        refine pure_ (i := 16) (N := some 101) (v := ?_) (a' := ?_) (bl_ 33 131071) rfl rfl (any_of HT_.out (by kernel_rfl)) (fun _ _ _ h => h) (Or.inl ⟨by rfl, ?_⟩) ?_ ?_; rotate_left; { intro w'; go_simp; with_reducible rfl }; rotate_left; { simp only [Act.put, List.setIfInBounds_toArray, List.set_cons_zero, List.set_cons_succ, i64_w, i32_w]; rfl }
                                        refine pure_ (i := 17) (N := some 102) (v := ?_) (a' := ?_) (bl_ 33 262143) rfl rfl (any_of HT_.out (by kernel_rfl)) (fun _ _ _ h => h) (Or.inl ⟨by rfl, ?_⟩) ?_ ?_; rotate_left; { intro w'; go_simp; with_reducible rfl }; rotate_left; { simp only [Act.put, List.setIfInBounds_toArray, List.set_cons_zero, List.set_cons_succ, i64_w, i32_w]; rfl }
                                        refine pure_ (i := 18) (N := some 103) (v := ?_) (a' := ?_) (bl_ 33 524287) rfl rfl (any_of HT_.out (by kernel_rfl)) (fun _ _ _ h => h) (Or.inl ⟨by rfl, ?_⟩) ?_ ?_; rotate_left; { intro w'; go_simp; with_reducible rfl }; rotate_left; { simp only [Act.put, List.setIfInBounds_toArray, List.set_cons_zero, List.set_cons_succ, i64_w, i32_w]; rfl }
                                        refine pure_ (i := 19) (N := some 104) (v := ?_) (a' := ?_) (bl_ 33 1048575) rfl rfl (any_of HT_.out (by kernel_rfl)) (fun _ _ _ h => h) (Or.inl ⟨by rfl, ?_⟩) ?_ ?_; rotate_left; { intro w'; go_simp; with_reducible rfl }; rotate_left; { simp only [Act.put, List.setIfInBounds_toArray, List.set_cons_zero, List.set_cons_succ, i64_w, i32_w]; rfl }
                                        refine pure_ (i := 20) (N := some 105) (v := ?_) (a' := ?_) (bl_ 33 2097151) rfl rfl (any_of HT_.out (by kernel_rfl)) (fun _ _ _ h => h) (Or.inl ⟨by rfl, ?_⟩) ?_ ?_; rotate_left; { intro w'; go_simp; with_reducible rfl }; rotate_left; { simp only [Act.put, List.setIfInBounds_toArray, List.set_cons_zero, List.set_cons_succ, i64_w, i32_w]; rfl }
                                        refine pure_ (i := 22) (N := some 107) (v := ?_) (a' := ?_) (bl_ 33 6291455) rfl rfl (any_of HT_.out (by kernel_rfl)) (fun _ _ _ h => h) (Or.inl ⟨by rfl, ?_⟩) ?_ ?_; rotate_left; { intro w'; go_simp; with_reducible rfl }; rotate_left; { simp only [Act.put, List.setIfInBounds_toArray, List.set_cons_zero, List.set_cons_succ, i64_w, i32_w]; rfl }
                                        refine pure_ (i := 26) (N := some 111) (v := ?_) (a' := ?_) (bl_ 33 73400319) rfl rfl (any_of HT_.out (by kernel_rfl)) (fun _ _ _ h => h) (Or.inl ⟨by rfl, ?_⟩) ?_ ?_; rotate_left; { intro w'; go_simp; with_reducible rfl }; rotate_left; { simp only [Act.put, List.setIfInBounds_toArray, List.set_cons_zero, List.set_cons_succ, i64_w, i32_w]; rfl }
                                        refine pure_ (i := 27) (N := some 112) (v := ?_) (a' := ?_) (bl_ 33 207618047) rfl rfl (any_of HT_.out (by kernel_rfl)) (fun _ _ _ h => h) (Or.inl ⟨by rfl, ?_⟩) ?_ ?_; rotate_left; { intro w'; go_simp; with_reducible rfl }; rotate_left; { simp only [Act.put, List.setIfInBounds_toArray, List.set_cons_zero, List.set_cons_succ, i64_w, i32_w]; rfl }
                                        refine pure_ (i := 28) (N := some 113) (v := ?_) (a' := ?_) (bl_ 33 476053503) rfl rfl (any_of HT_.out (by kernel_rfl)) (fun _ _ _ h => h) (Or.inl ⟨by rfl, ?_⟩) ?_ ?_; rotate_left; { intro w'; go_simp; with_reducible rfl }; rotate_left; { simp only [Act.put, List.setIfInBounds_toArray, List.set_cons_zero, List.set_cons_succ, i64_w, i32_w]; rfl }
                                        refine pure_ (i := 29) (N := some 114) (v := ?_) (a' := ?_) (bl_ 33 1012924415) rfl rfl (any_of HT_.out (by kernel_rfl)) (fun _ _ _ h => h) (Or.inl ⟨by rfl, ?_⟩) ?_ ?_; rotate_left; { intro w'; go_simp; with_reducible rfl }; rotate_left; { simp only [Act.put, List.setIfInBounds_toArray, List.set_cons_zero, List.set_cons_succ, i64_w, i32_w]; rfl }
                                        refine take_ (i := 21) (N := some 106) (v := ?_) (a' := ?_) (bl_ 33 1015021567) rfl rfl (take_ofW HT_.out HW_.out (by kernel_rfl)) (fun _ _ _ h => h) (Or.inl ⟨by rfl, ?_⟩) hHeld ?_ ?_; rotate_left; { rintro w' ⟨s0, s1, s2, s3, s4, s5⟩; go_simp; with_reducible rfl }; rotate_left; { simp only [Act.put, List.setIfInBounds_toArray, List.set_cons_zero, List.set_cons_succ, i64_w, i32_w]; rfl }
                                        refine take_ (i := 23) (N := some 108) (v := ?_) (a' := ?_) (bl_ 33 1023410175) rfl rfl (take_ofW HT_.out HW_.out (by kernel_rfl)) (fun _ _ _ h => h) (Or.inl ⟨by rfl, ?_⟩) hHeld ?_ ?_; rotate_left; { rintro w' ⟨s0, s1, s2, s3, s4, s5⟩; go_simp; with_reducible rfl }; rotate_left; { simp only [Act.put, List.setIfInBounds_toArray, List.set_cons_zero, List.set_cons_succ, i64_w, i32_w]; rfl }
                                        refine pure_ (i := 24) (N := some 109) (v := ?_) (a' := ?_) (bl_ 33 1040187391) rfl rfl (any_of HT_.out (by kernel_rfl)) (fun _ _ _ h => h) (Or.inl ⟨by rfl, ?_⟩) ?_ ?_; rotate_left; { intro w'; go_simp; with_reducible rfl }; rotate_left; { simp only [Act.put, List.setIfInBounds_toArray, List.set_cons_zero, List.set_cons_succ, i64_w, i32_w]; rfl }
                                        refine take_ (i := 30) (N := some 115) (v := ?_) (a' := ?_) (bl_ 33 2113929215) rfl rfl (take_ofW HT_.out HW_.out (by kernel_rfl)) (fun _ _ _ h => h) (Or.inl ⟨by rfl, ?_⟩) hHeld ?_ ?_; rotate_left; { rintro w' ⟨s0, s1, s2, s3, s4, s5⟩; go_simp; with_reducible rfl }; rotate_left; { simp only [Act.put, List.setIfInBounds_toArray, List.set_cons_zero, List.set_cons_succ, i64_w, i32_w]; rfl }
                                        refine one_ (i := 25) (N := some 110) (bl_ 33 2147483647) rfl rfl (one_of HT_.out (by kernel_rfl)) (by decide) (fun K hK => ?_)
                                        have hcv79 := Kd.C_string (P := Try.prog) (A := A78) (c := c78) Try.underlying22 Try.underlying5 Try.underlying9 (by repeat (first | (with_reducible exact HR220.out) | (with_reducible refine Kd.C_alloc ?_ _) | (with_reducible refine Kd.C_drewN ?_ _) | (with_reducible refine Kd.C_drew ?_) | exact HR220.out))
                                        refine value_ (w1 := ?_) (v := ?_) (by rfl) rfl ?_ ?_; rotate_left 2
                                        · go_simp
                                          constructor
                                          · rfl
                                          · rfl
                                        clear hcv79
                                        refine hK.out _ _ ⟨hHeld.1, hHeld.2.1, hHeld.2.2.1, hHeld.2.2.2.1, hHeld.2.2.2.2.1, hHeld.2.2.2.2.2⟩ (fun hHeld => ?_)
                                        clear hK K
                                        refine norm_ (a' := ?_) ?_ ?_; rotate_left; { show Act.put _ (some 110) _ = _; simp only [Act.put, List.setIfInBounds_toArray, List.set_cons_zero, List.set_cons_succ, i64_w, i32_w]; rfl }
                                        refine pure_ (i := 31) (N := some 116) (v := ?_) (a' := ?_) (bl_ 33 4294967295) rfl rfl (any_of HT_.out (by kernel_rfl)) (fun _ _ _ h => h) (Or.inl ⟨by rfl, ?_⟩) ?_ ?_; rotate_left; { intro w'; go_simp; with_reducible rfl }; rotate_left; { simp only [Act.put, List.setIfInBounds_toArray, List.set_cons_zero, List.set_cons_succ, i64_w, i32_w]; rfl }
                                        refine pure_ (i := 32) (N := some 117) (v := ?_) (a' := ?_) (bl_ 33 8589934591) rfl rfl (any_of HT_.out (by kernel_rfl)) (fun _ _ _ h => h) (Or.inl ⟨by rfl, ?_⟩) ?_ ?_; rotate_left; { intro w'; go_simp; with_reducible rfl }; rotate_left; { simp only [Act.put, List.setIfInBounds_toArray, List.set_cons_zero, List.set_cons_succ, i64_w, i32_w]; rfl }
                                        refine done_ (done_of HT_.out (by kernel_rfl)) ?_
                                        try go_wp2
                                        go_ret
                                        exact ⟨by first | rfl | (simp [errW_none, errW_some, erT_no, erV_no, erT_at, erV_at] <;> rfl) | (simp only [← hji3]; first | rfl | (simp [errW_none, errW_some, erT_no, erV_no, erT_at, erV_at] <;> rfl)) | (simp [*, errW_none, errW_some, erT_no, erV_no, erT_at, erV_at] <;> rfl), by repeat (first | (with_reducible first | exact HB.out | apply below_alloc | apply pw_below_drewN | apply below_drew1 | refine below_set ?_ GE216.out) | exact HB.out)⟩
                                    · rw [if_neg c54] at H
                                      exact absurd H (by simp)
                                  · rw [if_neg c53] at H
                                    exact absurd H (by simp)
                                · rw [if_neg c52] at H
                                  exact absurd H (by simp)
                              · rw [if_neg c51] at H
                                exact absurd H (by simp)
                      · rw [if_neg c34] at H
                        exact absurd H (by simp)
                    · rw [if_neg c33] at H
                      exact absurd H (by simp)
                  · rw [if_neg c32] at H
                    have c32b0 : decide (x80_2 < (t206.length : Int)) = false := decide_eq_false c32
                    clear c32
                    by_cases c80 : 0 ≤ x9_2
                    · rw [if_pos c80] at H
                      have c80b0 := eq_true c80
                      have c80b1 : decide (0 ≤ x9_2) = true := decide_eq_true c80
                      clear c80
                      by_cases c81 : x9_2 ≤ (t202.length : Int)
                      · rw [if_pos c81] at H
                        have c81b0 := eq_true c81
                        have c81b1 : decide (x9_2 ≤ (t202.length : Int)) = true := decide_eq_true c81
                        clear c81
                        obtain ⟨y232, hy232⟩ : ∃ y_ : List Int, y_ = (t202.drop (x9_2 : Int).toNat) := ⟨_, rfl⟩
                        replace H : (if x10_2.length + y232.length < 140737488355328 then ((bytes_Equal.f (x10_2 ++ y232) y195).bind fun t239 => (if t239 = true then ((cavillaw04_works.f k2).bind fun t240 => (some t240)) else (some false))) else (none)) = some r := by first | (rw [hy232]; with_reducible exact H) | (have H2_ := (Option.bind_some _ _).symm.trans H; rw [hy232]; with_reducible exact H2_) | (have H2_ := (Option.bind_some _ _).symm.trans H; with_reducible exact H2_) | with_reducible exact H | (rw [hy232]; exact H) | exact H
                        have Ny232 := Aside0.mk hy232
                        clear hy232
                        by_cases c82 : x10_2.length + y232.length < 140737488355328
                        · rw [if_pos c82] at H
                          have LMc82 := Aside0.mk c82
                          clear c82
                          obtain ⟨y236, hy236⟩ : ∃ y_ : List Int, y_ = (x10_2 ++ y232) := ⟨_, rfl⟩
                          replace H : ((bytes_Equal.f y236 y195).bind fun t239 => (if t239 = true then ((cavillaw04_works.f k2).bind fun t240 => (some t240)) else (some false))) = some r := by first | (rw [hy236]; with_reducible exact H) | (have H2_ := (Option.bind_some _ _).symm.trans H; rw [hy236]; with_reducible exact H2_) | (have H2_ := (Option.bind_some _ _).symm.trans H; with_reducible exact H2_) | with_reducible exact H | (rw [hy236]; exact H) | exact H
                          have Ny236 := Aside0.mk hy236
                          clear hy236
                          replace H := Option.bind_eq_some_iff.mp H
                          obtain ⟨t239, A830, H⟩ := H
                          replace H : (if t239 = true then ((cavillaw04_works.f k2).bind fun t240 => (some t240)) else (some false)) = some r := H
                          have A83 := Aside0.mk A830
                          clear A830
                          by_cases c84 : t239 = true
                          · subst c84
                            have H1 : ((cavillaw04_works.f k2).bind fun t240 => (some t240)) = some r := by rw [if_pos rfl] at H; exact H
                            clear H
                            have H := H1
                            clear H1
                            replace H := Option.bind_eq_some_iff.mp H
                            obtain ⟨t240, A850, H⟩ := H
                            replace H : (some t240) = some r := H
                            have A85 := Aside0.mk A850
                            clear A850
                            obtain rfl := Option.some.inj H
                            obtain ⟨Ao87, co87, eo87⟩ := Kd.R_slice HO_5.out
                            subst eo87
                            have q86 : (x9_2 : Int) ≤ ((t202.length : Int) : Int) := of_decide_eq_true (by first | (with_reducible assumption) | assumption)
                            obtain ⟨i086, hi086, _, hsz86, _⟩ := info_parts info5
                            have hroom86 : t202.length ≤ co87 := (Kd.R_reads' HO_5.out).2.1
                            have hC86 : Kd.C (Kd.int .u8) _ Ao87 t202.length t202 := (Kd.R_reads' HO_5.out).2.2
                            have q086 : (0 : Int) ≤ (x9_2 : Int) := of_decide_eq_true (by first | (with_reducible assumption) | assumption)
                            have hcut86 := cut_from (P := Try.prog) 22 5 .i64 Try.underlying22 hi086 1 hsz86 Ao87 t202.length co87 x9_2 q086 q86
                            have hr86 := Kd.C_drop (m := (x9_2 : Int).toNat) (c := co87) hC86 (by omega) hroom86
                            obtain ⟨A86, hA86⟩ : ∃ A1, A1 = (if co87 = (x9_2 : Int).toNat then Ao87 else (Ao87 : Option Addr).map (·.add ((x9_2 : Int).toNat * 1))) := ⟨_, rfl⟩
                            obtain ⟨c86, hc86⟩ : ∃ c1, c1 = co87 - (x9_2 : Int).toNat := ⟨_, rfl⟩
                            have hy86 : y232.length = t202.length - (x9_2 : Int).toNat := (by rw [Ny232.out, List.length_drop] <;> omega)
                            rw [show (t202).drop (x9_2 : Int).toNat = y232 from Ny232.out.symm] at hr86
                            replace hr86 : Kd.C (Kd.int .u8) _ A86 y232.length y232 := (by rw [hA86]; exact hr86)
                            rw [← hy86, ← hA86, ← hc86] at hcut86
                            have HR235 := Aside0.mk hr86
                            have HC235 := Aside0.mk (show y232.length ≤ c86 from by rw [hy86, hc86]; exact Nat.sub_le_sub_right hroom86 _)
                            clear hr86 hC86 hroom86 hi086 hsz86 hc86
                            have KY86 := Aside0.mk hy86
                            have KA86 := Aside0.mk hA86
                            clear hy86 hA86
                            have KL86 := Aside0.mk (show (x9_2 : Int).toNat ≤ t202.length from by omega)
                            replace q86 := eq_true q86
                            go_wp2_with (first | ((with_reducible refine gate_builtin (b := .append) (xs := #[.tmp 131, .tmp 134]) rfl ?_); (try (refine gate_guard (by rfl) ?_; dsimp only)); at_builtin; refine Kd.R_append_rows (Kd.int .u8) (w0 := w) w.heap.size rfl (.tmp 131) (.tmp 134) 22 5 (.int .u8 0) 1 rfl Try.underlying22 info5 rfl (by decide) (by omega) u10 x10_2 y232 _ _ _ (fun k_ => some k_ ≠ (.slice Ao87 t202.length co87 : Value).ownBlock) (fun _ => False) rfl rfl ?aO ?aR (fun _ _ h => h) (fun _ h => h.elim) ?aF ?aB ?aS ?aL ?_; (case aR => repeat (first | exact (by repeat (first | (with_reducible exact HR235.out) | (with_reducible refine Kd.C_alloc ?_ _) | (with_reducible refine Kd.C_drewN ?_ _) | (with_reducible refine Kd.C_drew ?_) | exact HR235.out)) | (with_reducible refine Kd.C_alloc ?_ _) | (with_reducible refine Kd.C_drewN ?_ _) | (with_reducible refine Kd.C_drew ?_))); (case aB => exact (by repeat (first | (with_reducible first | exact HB.out | apply below_alloc | apply pw_below_drewN | apply below_drew1) | exact HB.out))); (case aF => exact (fun k_ hk => Kd.fresh' (Kd.R_lt (by (with_reducible repeat (first | apply Kd.R_alloc | apply Kd.R_drewN | apply Kd.R_drew)); exact HO_5.out)) k_ hk)); (case aO => exact (by (with_reducible repeat (first | apply Kd.R_alloc | apply Kd.R_drewN | apply Kd.R_drew)); exact HO_10.out)); (case aS => exact (below_size (by repeat (first | (with_reducible first | exact HB.out | apply below_alloc | apply pw_below_drewN | apply below_drew1) | exact HB.out)))); (case aL => have := LMc82.out; omega); intro v237 w88 ho hb hg hat; rw [← Ny236.out] at ho; have n0_ := Aside0.mk (Kd.R_over' (by (with_reducible repeat (first | apply Kd.R_alloc | apply Kd.R_drewN | apply Kd.R_drew)); exact HO_1.out) (Kd.R_typed (by (with_reducible repeat (first | apply Kd.R_alloc | apply Kd.R_drewN | apply Kd.R_drew)); exact HO_10.out)) (by decide) hg); have n1_ := Aside0.mk (Kd.R_after (ok := (fun _ => True)) (by (with_reducible repeat (first | apply Kd.R_alloc | apply Kd.R_drewN | apply Kd.R_drew)); exact Kd.R_mono HO_5.out (fun _ hk => ⟨trivial, hk⟩)) hg hat); have n2_ := Aside0.mk (Kd.R_over' (by (with_reducible repeat (first | apply Kd.R_alloc | apply Kd.R_drewN | apply Kd.R_drew)); exact HO_78.out) (Kd.R_typed (by (with_reducible repeat (first | apply Kd.R_alloc | apply Kd.R_drewN | apply Kd.R_drew)); exact HO_10.out)) (by decide) hg); have n3_ := Aside0.mk (hb); have n4_ := Aside0.mk ((show Kd.C (Kd.int .u8) w88 A86 y232.length y232 from by rw [Ny232.out, KA86.out]; exact Kd.C_drop (m := (x9_2 : Int).toNat) (c := co87) ((Kd.R_reads' (Kd.R_after (ok := (fun _ => True)) (by (with_reducible repeat (first | apply Kd.R_alloc | apply Kd.R_drewN | apply Kd.R_drew)); exact Kd.R_mono HO_5.out (fun _ hk => ⟨trivial, hk⟩)) hg hat)).2.2) KL86.out ((Kd.R_reads' (Kd.R_after (ok := (fun _ => True)) (by (with_reducible repeat (first | apply Kd.R_alloc | apply Kd.R_drewN | apply Kd.R_drew)); exact Kd.R_mono HO_5.out (fun _ hk => ⟨trivial, hk⟩)) hg hat)).2.1))); have n5_ := Aside0.mk (ho); clear HO_1; clear HO_5; clear HO_78; clear HB; clear HR235; clear HO_10; have HO_1 := n0_; have HO_5 := n1_; have HO_78 := n2_; have HB := n3_; have HR235 := n4_; have HO238 := n5_; clear n0_ n1_ n2_ n3_ n4_ n5_; clear ho hb hg hat; obtain ⟨Ao89, co89, eo89⟩ := Kd.R_slice HO238.out; subst eo89) | ((with_reducible refine gate_callee (f := 33) rfl ?_); refine goesL_ (some 137) rfl rfl Try.func33 (by kernel_rfl) rfl #[.slice Ao89 y236.length co89, .slice A0 y195.length c0] rfl (by (try simp only [List.map_toArray, List.map_cons, List.map_nil]); first | done | rfl | (simp only [List.length_drop, List.length_take]; rfl)) ?_; (with_reducible refine (bytes_Equal.calls _ _ y236 _ _ y195 true _ ?side1 ?side2 ?side3 ?side4 A83.out).mono ?_); (case side1 => repeat (first | exact (Kd.R_reads' HO238.out).2.2 | (with_reducible refine Kd.C_alloc ?_ _) | (with_reducible refine Kd.C_drewN ?_ _) | (with_reducible refine Kd.C_drew ?_))); (case side2 => exact (Kd.R_reads' HO238.out).2.1); (case side3 => repeat (first | exact (Kd.C_below HR198.out HB.out) | (with_reducible refine Kd.C_alloc ?_ _) | (with_reducible refine Kd.C_drewN ?_ _) | (with_reducible refine Kd.C_drew ?_))); (case side4 => exact HC198.out); rintro e w' ⟨rfl, ⟨nd, rfl⟩⟩; refine ⟨_, rfl, ?_⟩) | (go_at_call 29; (with_reducible refine (cavillaw04_works.calls k2  t240 _ A85.out).mono ?_); rintro e w90 ⟨rfl, hb⟩; have n0_ := Aside0.mk (Kd.R_below (by (with_reducible repeat (first | apply Kd.R_alloc | apply Kd.R_drewN | apply Kd.R_drew)); exact HO_1.out) hb); have n1_ := Aside0.mk (Kd.R_below (by (with_reducible repeat (first | apply Kd.R_alloc | apply Kd.R_drewN | apply Kd.R_drew)); exact HO_5.out) hb); have n2_ := Aside0.mk (Kd.R_below (by (with_reducible repeat (first | apply Kd.R_alloc | apply Kd.R_drewN | apply Kd.R_drew)); exact HO_78.out) hb); have n3_ := Aside0.mk (Kd.R_below (by (with_reducible repeat (first | apply Kd.R_alloc | apply Kd.R_drewN | apply Kd.R_drew)); exact HO238.out) hb); have n4_ := Aside0.mk (Kd.C_below (by repeat (first | (with_reducible exact HR235.out) | (with_reducible refine Kd.C_alloc ?_ _) | (with_reducible refine Kd.C_drewN ?_ _) | (with_reducible refine Kd.C_drew ?_) | exact HR235.out)) hb); have n5_ := Aside0.mk (below_step (by repeat (first | (with_reducible first | exact HB.out | apply below_alloc | apply pw_below_drewN | apply below_drew1) | exact HB.out)) hb); clear HO_1; clear HO_5; clear HO_78; clear HO238; clear HR235; clear HB; have HO_1 := n0_; have HO_5 := n1_; have HO_78 := n2_; have HO238 := n3_; have HR235 := n4_; have HB := n5_; clear n0_ n1_ n2_ n3_ n4_ n5_; (try clear hb); (try clear hb2); (try clear hk); (try clear hi)))
                            go_ret
                            exact ⟨by first | rfl | (simp [errW_none, errW_some, erT_no, erV_no, erT_at, erV_at] <;> rfl) | (simp only [← hji3]; first | rfl | (simp [errW_none, errW_some, erT_no, erV_no, erT_at, erV_at] <;> rfl)) | (simp [*, errW_none, errW_some, erT_no, erV_no, erT_at, erV_at] <;> rfl), by repeat (first | (with_reducible first | exact HB.out | apply below_alloc | apply pw_below_drewN | apply below_drew1) | exact HB.out)⟩
                          · replace c84 := Bool.eq_false_iff.mpr c84
                            subst c84
                            have H1 : (some false) = some r := by rw [if_neg (show ¬ (false = true) by decide)] at H; exact H
                            clear H
                            have H := H1
                            clear H1
                            obtain rfl := Option.some.inj H
                            obtain ⟨Ao92, co92, eo92⟩ := Kd.R_slice HO_5.out
                            subst eo92
                            have q91 : (x9_2 : Int) ≤ ((t202.length : Int) : Int) := of_decide_eq_true (by first | (with_reducible assumption) | assumption)
                            obtain ⟨i091, hi091, _, hsz91, _⟩ := info_parts info5
                            have hroom91 : t202.length ≤ co92 := (Kd.R_reads' HO_5.out).2.1
                            have hC91 : Kd.C (Kd.int .u8) _ Ao92 t202.length t202 := (Kd.R_reads' HO_5.out).2.2
                            have q091 : (0 : Int) ≤ (x9_2 : Int) := of_decide_eq_true (by first | (with_reducible assumption) | assumption)
                            have hcut91 := cut_from (P := Try.prog) 22 5 .i64 Try.underlying22 hi091 1 hsz91 Ao92 t202.length co92 x9_2 q091 q91
                            have hr91 := Kd.C_drop (m := (x9_2 : Int).toNat) (c := co92) hC91 (by omega) hroom91
                            obtain ⟨A91, hA91⟩ : ∃ A1, A1 = (if co92 = (x9_2 : Int).toNat then Ao92 else (Ao92 : Option Addr).map (·.add ((x9_2 : Int).toNat * 1))) := ⟨_, rfl⟩
                            obtain ⟨c91, hc91⟩ : ∃ c1, c1 = co92 - (x9_2 : Int).toNat := ⟨_, rfl⟩
                            have hy91 : y232.length = t202.length - (x9_2 : Int).toNat := (by rw [Ny232.out, List.length_drop] <;> omega)
                            rw [show (t202).drop (x9_2 : Int).toNat = y232 from Ny232.out.symm] at hr91
                            replace hr91 : Kd.C (Kd.int .u8) _ A91 y232.length y232 := (by rw [hA91]; exact hr91)
                            rw [← hy91, ← hA91, ← hc91] at hcut91
                            have HR235 := Aside0.mk hr91
                            have HC235 := Aside0.mk (show y232.length ≤ c91 from by rw [hy91, hc91]; exact Nat.sub_le_sub_right hroom91 _)
                            clear hr91 hC91 hroom91 hi091 hsz91 hc91
                            have KY91 := Aside0.mk hy91
                            have KA91 := Aside0.mk hA91
                            clear hy91 hA91
                            have KL91 := Aside0.mk (show (x9_2 : Int).toNat ≤ t202.length from by omega)
                            replace q91 := eq_true q91
                            go_wp2_with (first | ((with_reducible refine gate_builtin (b := .append) (xs := #[.tmp 131, .tmp 134]) rfl ?_); (try (refine gate_guard (by rfl) ?_; dsimp only)); at_builtin; refine Kd.R_append_rows (Kd.int .u8) (w0 := w) w.heap.size rfl (.tmp 131) (.tmp 134) 22 5 (.int .u8 0) 1 rfl Try.underlying22 info5 rfl (by decide) (by omega) u10 x10_2 y232 _ _ _ (fun k_ => some k_ ≠ (.slice Ao92 t202.length co92 : Value).ownBlock) (fun _ => False) rfl rfl ?aO ?aR (fun _ _ h => h) (fun _ h => h.elim) ?aF ?aB ?aS ?aL ?_; (case aR => repeat (first | exact (by repeat (first | (with_reducible exact HR235.out) | (with_reducible refine Kd.C_alloc ?_ _) | (with_reducible refine Kd.C_drewN ?_ _) | (with_reducible refine Kd.C_drew ?_) | exact HR235.out)) | (with_reducible refine Kd.C_alloc ?_ _) | (with_reducible refine Kd.C_drewN ?_ _) | (with_reducible refine Kd.C_drew ?_))); (case aB => exact (by repeat (first | (with_reducible first | exact HB.out | apply below_alloc | apply pw_below_drewN | apply below_drew1) | exact HB.out))); (case aF => exact (fun k_ hk => Kd.fresh' (Kd.R_lt (by (with_reducible repeat (first | apply Kd.R_alloc | apply Kd.R_drewN | apply Kd.R_drew)); exact HO_5.out)) k_ hk)); (case aO => exact (by (with_reducible repeat (first | apply Kd.R_alloc | apply Kd.R_drewN | apply Kd.R_drew)); exact HO_10.out)); (case aS => exact (below_size (by repeat (first | (with_reducible first | exact HB.out | apply below_alloc | apply pw_below_drewN | apply below_drew1) | exact HB.out)))); (case aL => have := LMc82.out; omega); intro v237 w93 ho hb hg hat; rw [← Ny236.out] at ho; have n0_ := Aside0.mk (Kd.R_over' (by (with_reducible repeat (first | apply Kd.R_alloc | apply Kd.R_drewN | apply Kd.R_drew)); exact HO_1.out) (Kd.R_typed (by (with_reducible repeat (first | apply Kd.R_alloc | apply Kd.R_drewN | apply Kd.R_drew)); exact HO_10.out)) (by decide) hg); have n1_ := Aside0.mk (Kd.R_after (ok := (fun _ => True)) (by (with_reducible repeat (first | apply Kd.R_alloc | apply Kd.R_drewN | apply Kd.R_drew)); exact Kd.R_mono HO_5.out (fun _ hk => ⟨trivial, hk⟩)) hg hat); have n2_ := Aside0.mk (Kd.R_over' (by (with_reducible repeat (first | apply Kd.R_alloc | apply Kd.R_drewN | apply Kd.R_drew)); exact HO_78.out) (Kd.R_typed (by (with_reducible repeat (first | apply Kd.R_alloc | apply Kd.R_drewN | apply Kd.R_drew)); exact HO_10.out)) (by decide) hg); have n3_ := Aside0.mk (hb); have n4_ := Aside0.mk ((show Kd.C (Kd.int .u8) w93 A91 y232.length y232 from by rw [Ny232.out, KA91.out]; exact Kd.C_drop (m := (x9_2 : Int).toNat) (c := co92) ((Kd.R_reads' (Kd.R_after (ok := (fun _ => True)) (by (with_reducible repeat (first | apply Kd.R_alloc | apply Kd.R_drewN | apply Kd.R_drew)); exact Kd.R_mono HO_5.out (fun _ hk => ⟨trivial, hk⟩)) hg hat)).2.2) KL91.out ((Kd.R_reads' (Kd.R_after (ok := (fun _ => True)) (by (with_reducible repeat (first | apply Kd.R_alloc | apply Kd.R_drewN | apply Kd.R_drew)); exact Kd.R_mono HO_5.out (fun _ hk => ⟨trivial, hk⟩)) hg hat)).2.1))); have n5_ := Aside0.mk (ho); clear HO_1; clear HO_5; clear HO_78; clear HB; clear HR235; clear HO_10; have HO_1 := n0_; have HO_5 := n1_; have HO_78 := n2_; have HB := n3_; have HR235 := n4_; have HO238 := n5_; clear n0_ n1_ n2_ n3_ n4_ n5_; clear ho hb hg hat; obtain ⟨Ao94, co94, eo94⟩ := Kd.R_slice HO238.out; subst eo94) | ((with_reducible refine gate_callee (f := 33) rfl ?_); refine goesL_ (some 137) rfl rfl Try.func33 (by kernel_rfl) rfl #[.slice Ao94 y236.length co94, .slice A0 y195.length c0] rfl (by (try simp only [List.map_toArray, List.map_cons, List.map_nil]); first | done | rfl | (simp only [List.length_drop, List.length_take]; rfl)) ?_; (with_reducible refine (bytes_Equal.calls _ _ y236 _ _ y195 false _ ?side1 ?side2 ?side3 ?side4 A83.out).mono ?_); (case side1 => repeat (first | exact (Kd.R_reads' HO238.out).2.2 | (with_reducible refine Kd.C_alloc ?_ _) | (with_reducible refine Kd.C_drewN ?_ _) | (with_reducible refine Kd.C_drew ?_))); (case side2 => exact (Kd.R_reads' HO238.out).2.1); (case side3 => repeat (first | exact (Kd.C_below HR198.out HB.out) | (with_reducible refine Kd.C_alloc ?_ _) | (with_reducible refine Kd.C_drewN ?_ _) | (with_reducible refine Kd.C_drew ?_))); (case side4 => exact HC198.out); rintro e w' ⟨rfl, ⟨nd, rfl⟩⟩; refine ⟨_, rfl, ?_⟩))
                            go_ret
                            exact ⟨by first | rfl | (simp [errW_none, errW_some, erT_no, erV_no, erT_at, erV_at] <;> rfl) | (simp only [← hji3]; first | rfl | (simp [errW_none, errW_some, erT_no, erV_no, erT_at, erV_at] <;> rfl)) | (simp [*, errW_none, errW_some, erT_no, erV_no, erT_at, erV_at] <;> rfl), by repeat (first | (with_reducible first | exact HB.out | apply below_alloc | apply pw_below_drewN | apply below_drew1) | exact HB.out)⟩
                        · rw [if_neg c82] at H
                          exact absurd H (by simp)
                      · rw [if_neg c81] at H
                        exact absurd H (by simp)
                    · rw [if_neg c80] at H
                      exact absurd H (by simp)
      · have H1 : (if t207.isNone = true then (some false) else (if (t206.length : Int) = 0 then ((cavillaw01_Code.f k (some q210)).bind fun t242 => ((cavillaw01_Code.f k (some (t207.getD (Er.no 0)))).bind fun t243 => (if t242 = t243 then ((cavillaw04_works.f k).bind fun t244 => (some t244)) else (some false)))) else (some false))) = some r := by rw [if_neg (show ¬ (some q210).isNone = true by simp)] at H; exact H
        clear H
        have H := H1
        clear H1
        try simp only [errW_none, errW_some, erT_no, erV_no, erT_at, erV_at]
        rcases t207 with _ | q241
        · have H1 : (some false) = some r := by rw [if_pos (show (none : Option Er).isNone = true by rfl)] at H; exact H
          clear H
          have H := H1
          clear H1
          try simp only [errW_none, errW_some, erT_no, erV_no, erT_at, erV_at]
          obtain rfl := Option.some.inj H
          go_enter Try.func7, Try.ntmps7
          try go_wp2
          have n0_ := Aside0.mk (below_drew1 HB.out)
          clear HB
          have HB := n0_
          clear n0_
          have q96 : ((ji3) : Int) ≤ ((l0.length : Int) : Int) := of_decide_eq_true (by first | (with_reducible assumption) | assumption)
          obtain ⟨i096, hi096, _, hsz96, _⟩ := info_parts info5
          have hroom96 : l0.length ≤ c0 := HC0.out
          have hC96 : Kd.C (Kd.int .u8) _ A0 l0.length l0 := HR0.out
          have hcut96 := cut_to (P := Try.prog) 22 5 .i64 Try.underlying22 hi096 A0 l0.length c0 (ji3) (of_decide_eq_true (by first | (with_reducible assumption) | assumption)) q96 hroom96
          have hr96 := Kd.C_take (m := ((ji3) : Int).toNat) hC96 (by omega)
          have hy96 : y195.length = ((ji3) : Int).toNat := (by rw [Ny195.out, List.length_take]; omega)
          rw [← Ny195.out] at hr96
          rw [← hy96] at hcut96
          have HR198 := Aside0.mk hr96
          have HC198 := Aside0.mk (show y195.length ≤ c0 from by omega)
          clear hr96 hC96 hroom96 hi096 hsz96
          have KY96 := Aside0.mk hy96
          clear hy96
          replace q96 := eq_true q96
          refine start_ (n := 9) (S := fun w' => True) (ds := []) #[false, false, false, false, false, false, false, false, false] (by kernel_rfl) rfl rfl trivial (fun hHeld => ?_); refine with_tabW cavillaw04_EditBack.tab1 cavillaw04_EditBack.bits1 (fun HT_ HW_ => ?_)
          generalize w.drew = w95 at HB HR198 hHeld ⊢
          refine pure_ (i := 0) (N := some 13) (v := ?_) (a' := ?_) #[true, false, false, false, false, false, false, false, false] rfl rfl (any_of HT_.out (by kernel_rfl)) (fun _ _ _ h => h) (Or.inl ⟨by rfl, ?_⟩) ?_ ?_; rotate_left; { intro w'; go_simp; with_reducible rfl }; rotate_left; { simp only [Act.put, List.setIfInBounds_toArray, List.set_cons_zero, List.set_cons_succ, i64_w, i32_w]; rfl }
          refine pure_ (i := 1) (N := some 14) (v := ?_) (a' := ?_) #[true, true, false, false, false, false, false, false, false] rfl rfl (any_of HT_.out (by kernel_rfl)) (fun _ _ _ h => h) (Or.inl ⟨by rfl, ?_⟩) ?_ ?_; rotate_left; { intro w'; go_simp; with_reducible rfl }; rotate_left; { simp only [Act.put, List.setIfInBounds_toArray, List.set_cons_zero, List.set_cons_succ, i64_w, i32_w]; rfl }
          refine pure_ (i := 2) (N := some 15) (v := ?_) (a' := ?_) #[true, true, true, false, false, false, false, false, false] rfl rfl (any_of HT_.out (by kernel_rfl)) (fun _ _ _ h => h) (Or.inl ⟨by rfl, ?_⟩) ?_ ?_; rotate_left; { intro w'; go_simp; with_reducible rfl }; rotate_left; { simp only [Act.put, List.setIfInBounds_toArray, List.set_cons_zero, List.set_cons_succ, i64_w, i32_w]; rfl }
          refine pure_ (i := 3) (N := some 16) (v := ?_) (a' := ?_) #[true, true, true, true, false, false, false, false, false] rfl rfl (any_of HT_.out (by kernel_rfl)) (fun _ _ _ h => h) (Or.inl ⟨by rfl, ?_⟩) ?_ ?_; rotate_left; { intro w'; go_simp; with_reducible rfl }; rotate_left; { simp only [Act.put, List.setIfInBounds_toArray, List.set_cons_zero, List.set_cons_succ, i64_w, i32_w]; rfl }
          refine pure_ (i := 4) (N := some 17) (v := ?_) (a' := ?_) #[true, true, true, true, true, false, false, false, false] rfl rfl (any_of HT_.out (by kernel_rfl)) (fun _ _ _ h => h) (Or.inl ⟨by rfl, ?_⟩) ?_ ?_; rotate_left; { intro w'; go_simp; with_reducible rfl }; rotate_left; { simp only [Act.put, List.setIfInBounds_toArray, List.set_cons_zero, List.set_cons_succ, i64_w, i32_w]; rfl }
          refine pure_ (i := 5) (N := some 18) (v := ?_) (a' := ?_) #[true, true, true, true, true, true, false, false, false] rfl rfl (any_of HT_.out (by kernel_rfl)) (fun _ _ _ h => h) (Or.inl ⟨by rfl, ?_⟩) ?_ ?_; rotate_left; { intro w'; go_simp; with_reducible rfl }; rotate_left; { simp only [Act.put, List.setIfInBounds_toArray, List.set_cons_zero, List.set_cons_succ, i64_w, i32_w]; rfl }
          refine one_ (i := 6) (N := some 19) #[true, true, true, true, true, true, true, false, false] rfl rfl (one_of HT_.out (by kernel_rfl)) (by decide) (fun K hK => ?_)
          refine goes_ Try.func22 (by kernel_rfl) rfl #[.slice A1 l1.length c1] (by rfl) rfl rfl (by (try simp only [List.map_toArray, List.map_cons, List.map_nil]); first | done | rfl | (simp only [List.length_drop, List.length_take]; rfl)) ?_
          with_reducible refine (cavillaw04_few.calls k _ _ l1 t199 _ ?side1 ?side2 A6.out).mono ?_
          (case side1 => repeat (first | exact (Kd.C_below HR1.out HB.out) | (with_reducible refine Kd.C_alloc ?_ _) | (with_reducible refine Kd.C_drewN ?_ _) | (with_reducible refine Kd.C_drew ?_)))
          (case side2 => exact HC1.out)
          rintro e w97 ⟨v200, rfl, ho0, hb⟩
          refine ⟨_, rfl, ?_⟩
          have n0_ := Aside0.mk (Kd.R_lower ho0 (below_size (by repeat (first | (with_reducible first | exact HB.out | apply below_alloc | apply pw_below_drewN | apply below_drew1) | exact HB.out))))
          have n1_ := Aside0.mk (below_step (by repeat (first | (with_reducible first | exact HB.out | apply below_alloc | apply pw_below_drewN | apply below_drew1) | exact HB.out)) hb)
          clear HB
          have HO201 := n0_
          have HB := n1_
          clear n0_ n1_
          (try clear hb)
          (try clear hb2)
          (try clear hk)
          (try clear hi)
          (try clear ho0)
          refine hK.out _ _ trivial (fun hHeld => ?_)
          clear hK K
          refine norm_ (a' := ?_) ?_ ?_; rotate_left; { show Act.put _ (some 19) _ = _; simp only [Act.put, List.setIfInBounds_toArray, List.set_cons_zero, List.set_cons_succ, i64_w, i32_w]; rfl }
          refine pure_ (i := 7) (N := some 0) (v := ?_) (a' := ?_) #[true, true, true, true, true, true, true, true, false] rfl rfl (any_of HT_.out (by kernel_rfl)) (fun _ _ _ h => h) (Or.inl ⟨by rfl, ?_⟩) ?_ ?_; rotate_left; { intro w'; go_simp; with_reducible rfl }; rotate_left; { simp only [Act.put, List.setIfInBounds_toArray, List.set_cons_zero, List.set_cons_succ, i64_w, i32_w]; rfl }
          refine pure_ (i := 8) (N := some 1) (v := ?_) (a' := ?_) #[true, true, true, true, true, true, true, true, true] rfl rfl (any_of HT_.out (by kernel_rfl)) (fun _ _ _ h => h) (Or.inl ⟨by rfl, ?_⟩) ?_ ?_; rotate_left; { intro w'; go_simp; with_reducible rfl }; rotate_left; { simp only [Act.put, List.setIfInBounds_toArray, List.set_cons_zero, List.set_cons_succ, i64_w, i32_w]; rfl }
          refine done_ (done_of HT_.out (by kernel_rfl)) ?_
          obtain ⟨Ao98, co98, eo98⟩ := Kd.R_slice HO201.out
          subst eo98
          try go_wp2_with (first | ((with_reducible refine gate_callee (f := 30) rfl ?_); refine goesL_ (some 23) rfl rfl Try.func30 (by kernel_rfl) rfl #[.slice A0 y195.length c0, .slice Ao98 t199.length co98] rfl (by (try simp only [List.map_toArray, List.map_cons, List.map_nil]); first | done | rfl | (simp only [List.length_drop, List.length_take]; rfl)) ?_; (with_reducible refine (edit_Apply.calls k _ _ y195 _ _ t199 t202 (some q210) _ ?side1 ?side2 ?side3 ?side4 A7.out).mono ?_); (case side1 => repeat (first | exact (Kd.C_below HR198.out HB.out) | (with_reducible refine Kd.C_alloc ?_ _) | (with_reducible refine Kd.C_drewN ?_ _) | (with_reducible refine Kd.C_drew ?_))); (case side2 => exact HC198.out); (case side3 => repeat (first | exact (Kd.R_reads' HO201.out).2.2 | (with_reducible refine Kd.C_alloc ?_ _) | (with_reducible refine Kd.C_drewN ?_ _) | (with_reducible refine Kd.C_drew ?_))); (case side4 => exact (Kd.R_reads' HO201.out).2.1); rintro e w99 ⟨v204, rfl, ho0, hb⟩; refine ⟨_, rfl, ?_⟩; have n0_ := Aside0.mk (Kd.R_below (by (with_reducible repeat (first | apply Kd.R_alloc | apply Kd.R_drewN | apply Kd.R_drew)); exact HO201.out) hb); have n1_ := Aside0.mk (Kd.R_lower ho0 (below_size (by repeat (first | (with_reducible first | exact HB.out | apply below_alloc | apply pw_below_drewN | apply below_drew1) | exact HB.out)))); have n2_ := Aside0.mk (below_step (by repeat (first | (with_reducible first | exact HB.out | apply below_alloc | apply pw_below_drewN | apply below_drew1) | exact HB.out)) hb); clear HO201; clear HB; have HO201 := n0_; have HO205 := n1_; have HB := n2_; clear n0_ n1_ n2_; (try clear hb); (try clear hb2); (try clear hk); (try clear hi); (try clear ho0); (try simp only [errW_none, errW_some, erT_no, erV_no, erT_at, erV_at])) | ((with_reducible refine gate_callee (f := 31) rfl ?_); refine goesL_ (some 29) rfl rfl Try.func31 (by kernel_rfl) rfl #[.slice A0 y195.length c0, .slice Ao98 t199.length co98] rfl (by (try simp only [List.map_toArray, List.map_cons, List.map_nil]); first | done | rfl | (simp only [List.length_drop, List.length_take]; rfl)) ?_; (with_reducible refine (edit_Invert.calls k _ _ y195 _ _ t199 t206 none _ ?side1 ?side2 ?side3 ?side4 A8.out).mono ?_); (case side1 => repeat (first | exact (Kd.C_below HR198.out HB.out) | (with_reducible refine Kd.C_alloc ?_ _) | (with_reducible refine Kd.C_drewN ?_ _) | (with_reducible refine Kd.C_drew ?_))); (case side2 => exact HC198.out); (case side3 => repeat (first | exact (Kd.R_reads' HO201.out).2.2 | (with_reducible refine Kd.C_alloc ?_ _) | (with_reducible refine Kd.C_drewN ?_ _) | (with_reducible refine Kd.C_drew ?_))); (case side4 => exact (Kd.R_reads' HO201.out).2.1); rintro e w100 ⟨v208, rfl, ho0, hb⟩; refine ⟨_, rfl, ?_⟩; have n0_ := Aside0.mk (Kd.R_elder' (by (with_reducible repeat (first | apply Kd.R_alloc | apply Kd.R_drewN | apply Kd.R_drew)); exact HO201.out) (Kd.R_base ho0) hb); have n1_ := Aside0.mk (Kd.R_below (by (with_reducible repeat (first | apply Kd.R_alloc | apply Kd.R_drewN | apply Kd.R_drew)); exact HO205.out) hb); have n2_ := Aside0.mk (Kd.R_lower (Kd.R_new' ho0 (Kd.R_lt (by (with_reducible repeat (first | apply Kd.R_alloc | apply Kd.R_drewN | apply Kd.R_drew)); exact HO201.out))) (below_size (by repeat (first | (with_reducible first | exact HB.out | apply below_alloc | apply pw_below_drewN | apply below_drew1) | exact HB.out)))); have n3_ := Aside0.mk (below_step (by repeat (first | (with_reducible first | exact HB.out | apply below_alloc | apply pw_below_drewN | apply below_drew1) | exact HB.out)) hb); clear HO201; clear HO205; clear HB; have HO201 := n0_; have HO205 := n1_; have HO209 := n2_; have HB := n3_; clear n0_ n1_ n2_ n3_; (try clear hb); (try clear hb2); (try clear hk); (try clear hi); (try clear ho0); (try simp only [errW_none, errW_some, erT_no, erV_no, erT_at, erV_at])))
          go_ret
          exact ⟨by first | rfl | (simp [errW_none, errW_some, erT_no, erV_no, erT_at, erV_at] <;> rfl) | (simp only [← hji3]; first | rfl | (simp [errW_none, errW_some, erT_no, erV_no, erT_at, erV_at] <;> rfl)) | (simp [*, errW_none, errW_some, erT_no, erV_no, erT_at, erV_at] <;> rfl), by repeat (first | (with_reducible first | exact HB.out | apply below_alloc | apply pw_below_drewN | apply below_drew1) | exact HB.out)⟩
        · have H1 : (if (t206.length : Int) = 0 then ((cavillaw01_Code.f k (some q210)).bind fun t242 => ((cavillaw01_Code.f k (some q241)).bind fun t243 => (if t242 = t243 then ((cavillaw04_works.f k).bind fun t244 => (some t244)) else (some false)))) else (some false)) = some r := by rw [if_neg (show ¬ (some q241).isNone = true by simp)] at H; exact H
          clear H
          have H := H1
          clear H1
          try simp only [errW_none, errW_some, erT_no, erV_no, erT_at, erV_at]
          by_cases c101 : (t206.length : Int) = 0
          · rw [if_pos c101] at H
            have c101b0 : ((t206.length : Int) == 0) = true := beq_iff_eq.mpr c101
            have c101b1 : ((t206.length : Int) != 0) = false := bne_eq_false_iff_eq.mpr c101
            clear c101
            replace H := Option.bind_eq_some_iff.mp H
            obtain ⟨t242, A1020, H⟩ := H
            replace H : ((cavillaw01_Code.f k (some q241)).bind fun t243 => (if t242 = t243 then ((cavillaw04_works.f k).bind fun t244 => (some t244)) else (some false))) = some r := H
            have A102 := Aside0.mk A1020
            clear A1020
            replace H := Option.bind_eq_some_iff.mp H
            obtain ⟨t243, A1030, H⟩ := H
            replace H : (if t242 = t243 then ((cavillaw04_works.f k).bind fun t244 => (some t244)) else (some false)) = some r := H
            have A103 := Aside0.mk A1030
            clear A1030
            by_cases c104 : t242 = t243
            · rw [if_pos c104] at H
              have c104b0 : (t242 == t243) = true := beq_iff_eq.mpr c104
              have c104b1 : (t242 != t243) = false := bne_eq_false_iff_eq.mpr c104
              clear c104
              replace H := Option.bind_eq_some_iff.mp H
              obtain ⟨t244, A1050, H⟩ := H
              replace H : (some t244) = some r := H
              have A105 := Aside0.mk A1050
              clear A1050
              obtain rfl := Option.some.inj H
              go_enter Try.func7, Try.ntmps7
              try go_wp2
              have n0_ := Aside0.mk (below_drew1 HB.out)
              clear HB
              have HB := n0_
              clear n0_
              have q107 : ((ji3) : Int) ≤ ((l0.length : Int) : Int) := of_decide_eq_true (by first | (with_reducible assumption) | assumption)
              obtain ⟨i0107, hi0107, _, hsz107, _⟩ := info_parts info5
              have hroom107 : l0.length ≤ c0 := HC0.out
              have hC107 : Kd.C (Kd.int .u8) _ A0 l0.length l0 := HR0.out
              have hcut107 := cut_to (P := Try.prog) 22 5 .i64 Try.underlying22 hi0107 A0 l0.length c0 (ji3) (of_decide_eq_true (by first | (with_reducible assumption) | assumption)) q107 hroom107
              have hr107 := Kd.C_take (m := ((ji3) : Int).toNat) hC107 (by omega)
              have hy107 : y195.length = ((ji3) : Int).toNat := (by rw [Ny195.out, List.length_take]; omega)
              rw [← Ny195.out] at hr107
              rw [← hy107] at hcut107
              have HR198 := Aside0.mk hr107
              have HC198 := Aside0.mk (show y195.length ≤ c0 from by omega)
              clear hr107 hC107 hroom107 hi0107 hsz107
              have KY107 := Aside0.mk hy107
              clear hy107
              replace q107 := eq_true q107
              refine start_ (n := 9) (S := fun w' => True) (ds := []) #[false, false, false, false, false, false, false, false, false] (by kernel_rfl) rfl rfl trivial (fun hHeld => ?_); refine with_tabW cavillaw04_EditBack.tab1 cavillaw04_EditBack.bits1 (fun HT_ HW_ => ?_)
              generalize w.drew = w106 at HB HR198 hHeld ⊢
              refine pure_ (i := 0) (N := some 13) (v := ?_) (a' := ?_) #[true, false, false, false, false, false, false, false, false] rfl rfl (any_of HT_.out (by kernel_rfl)) (fun _ _ _ h => h) (Or.inl ⟨by rfl, ?_⟩) ?_ ?_; rotate_left; { intro w'; go_simp; with_reducible rfl }; rotate_left; { simp only [Act.put, List.setIfInBounds_toArray, List.set_cons_zero, List.set_cons_succ, i64_w, i32_w]; rfl }
              refine pure_ (i := 1) (N := some 14) (v := ?_) (a' := ?_) #[true, true, false, false, false, false, false, false, false] rfl rfl (any_of HT_.out (by kernel_rfl)) (fun _ _ _ h => h) (Or.inl ⟨by rfl, ?_⟩) ?_ ?_; rotate_left; { intro w'; go_simp; with_reducible rfl }; rotate_left; { simp only [Act.put, List.setIfInBounds_toArray, List.set_cons_zero, List.set_cons_succ, i64_w, i32_w]; rfl }
              refine pure_ (i := 2) (N := some 15) (v := ?_) (a' := ?_) #[true, true, true, false, false, false, false, false, false] rfl rfl (any_of HT_.out (by kernel_rfl)) (fun _ _ _ h => h) (Or.inl ⟨by rfl, ?_⟩) ?_ ?_; rotate_left; { intro w'; go_simp; with_reducible rfl }; rotate_left; { simp only [Act.put, List.setIfInBounds_toArray, List.set_cons_zero, List.set_cons_succ, i64_w, i32_w]; rfl }
              refine pure_ (i := 3) (N := some 16) (v := ?_) (a' := ?_) #[true, true, true, true, false, false, false, false, false] rfl rfl (any_of HT_.out (by kernel_rfl)) (fun _ _ _ h => h) (Or.inl ⟨by rfl, ?_⟩) ?_ ?_; rotate_left; { intro w'; go_simp; with_reducible rfl }; rotate_left; { simp only [Act.put, List.setIfInBounds_toArray, List.set_cons_zero, List.set_cons_succ, i64_w, i32_w]; rfl }
              refine pure_ (i := 4) (N := some 17) (v := ?_) (a' := ?_) #[true, true, true, true, true, false, false, false, false] rfl rfl (any_of HT_.out (by kernel_rfl)) (fun _ _ _ h => h) (Or.inl ⟨by rfl, ?_⟩) ?_ ?_; rotate_left; { intro w'; go_simp; with_reducible rfl }; rotate_left; { simp only [Act.put, List.setIfInBounds_toArray, List.set_cons_zero, List.set_cons_succ, i64_w, i32_w]; rfl }
              refine pure_ (i := 5) (N := some 18) (v := ?_) (a' := ?_) #[true, true, true, true, true, true, false, false, false] rfl rfl (any_of HT_.out (by kernel_rfl)) (fun _ _ _ h => h) (Or.inl ⟨by rfl, ?_⟩) ?_ ?_; rotate_left; { intro w'; go_simp; with_reducible rfl }; rotate_left; { simp only [Act.put, List.setIfInBounds_toArray, List.set_cons_zero, List.set_cons_succ, i64_w, i32_w]; rfl }
              refine one_ (i := 6) (N := some 19) #[true, true, true, true, true, true, true, false, false] rfl rfl (one_of HT_.out (by kernel_rfl)) (by decide) (fun K hK => ?_)
              refine goes_ Try.func22 (by kernel_rfl) rfl #[.slice A1 l1.length c1] (by rfl) rfl rfl (by (try simp only [List.map_toArray, List.map_cons, List.map_nil]); first | done | rfl | (simp only [List.length_drop, List.length_take]; rfl)) ?_
              with_reducible refine (cavillaw04_few.calls k _ _ l1 t199 _ ?side1 ?side2 A6.out).mono ?_
              (case side1 => repeat (first | exact (Kd.C_below HR1.out HB.out) | (with_reducible refine Kd.C_alloc ?_ _) | (with_reducible refine Kd.C_drewN ?_ _) | (with_reducible refine Kd.C_drew ?_)))
              (case side2 => exact HC1.out)
              rintro e w108 ⟨v200, rfl, ho0, hb⟩
              refine ⟨_, rfl, ?_⟩
              have n0_ := Aside0.mk (Kd.R_lower ho0 (below_size (by repeat (first | (with_reducible first | exact HB.out | apply below_alloc | apply pw_below_drewN | apply below_drew1) | exact HB.out))))
              have n1_ := Aside0.mk (below_step (by repeat (first | (with_reducible first | exact HB.out | apply below_alloc | apply pw_below_drewN | apply below_drew1) | exact HB.out)) hb)
              clear HB
              have HO201 := n0_
              have HB := n1_
              clear n0_ n1_
              (try clear hb)
              (try clear hb2)
              (try clear hk)
              (try clear hi)
              (try clear ho0)
              refine hK.out _ _ trivial (fun hHeld => ?_)
              clear hK K
              refine norm_ (a' := ?_) ?_ ?_; rotate_left; { show Act.put _ (some 19) _ = _; simp only [Act.put, List.setIfInBounds_toArray, List.set_cons_zero, List.set_cons_succ, i64_w, i32_w]; rfl }
              refine pure_ (i := 7) (N := some 0) (v := ?_) (a' := ?_) #[true, true, true, true, true, true, true, true, false] rfl rfl (any_of HT_.out (by kernel_rfl)) (fun _ _ _ h => h) (Or.inl ⟨by rfl, ?_⟩) ?_ ?_; rotate_left; { intro w'; go_simp; with_reducible rfl }; rotate_left; { simp only [Act.put, List.setIfInBounds_toArray, List.set_cons_zero, List.set_cons_succ, i64_w, i32_w]; rfl }
              refine pure_ (i := 8) (N := some 1) (v := ?_) (a' := ?_) #[true, true, true, true, true, true, true, true, true] rfl rfl (any_of HT_.out (by kernel_rfl)) (fun _ _ _ h => h) (Or.inl ⟨by rfl, ?_⟩) ?_ ?_; rotate_left; { intro w'; go_simp; with_reducible rfl }; rotate_left; { simp only [Act.put, List.setIfInBounds_toArray, List.set_cons_zero, List.set_cons_succ, i64_w, i32_w]; rfl }
              refine done_ (done_of HT_.out (by kernel_rfl)) ?_
              obtain ⟨Ao109, co109, eo109⟩ := Kd.R_slice HO201.out
              subst eo109
              try go_wp2_with (first | ((with_reducible refine gate_callee (f := 30) rfl ?_); refine goesL_ (some 23) rfl rfl Try.func30 (by kernel_rfl) rfl #[.slice A0 y195.length c0, .slice Ao109 t199.length co109] rfl (by (try simp only [List.map_toArray, List.map_cons, List.map_nil]); first | done | rfl | (simp only [List.length_drop, List.length_take]; rfl)) ?_; (with_reducible refine (edit_Apply.calls k _ _ y195 _ _ t199 t202 (some q210) _ ?side1 ?side2 ?side3 ?side4 A7.out).mono ?_); (case side1 => repeat (first | exact (Kd.C_below HR198.out HB.out) | (with_reducible refine Kd.C_alloc ?_ _) | (with_reducible refine Kd.C_drewN ?_ _) | (with_reducible refine Kd.C_drew ?_))); (case side2 => exact HC198.out); (case side3 => repeat (first | exact (Kd.R_reads' HO201.out).2.2 | (with_reducible refine Kd.C_alloc ?_ _) | (with_reducible refine Kd.C_drewN ?_ _) | (with_reducible refine Kd.C_drew ?_))); (case side4 => exact (Kd.R_reads' HO201.out).2.1); rintro e w110 ⟨v204, rfl, ho0, hb⟩; refine ⟨_, rfl, ?_⟩; have n0_ := Aside0.mk (Kd.R_below (by (with_reducible repeat (first | apply Kd.R_alloc | apply Kd.R_drewN | apply Kd.R_drew)); exact HO201.out) hb); have n1_ := Aside0.mk (Kd.R_lower ho0 (below_size (by repeat (first | (with_reducible first | exact HB.out | apply below_alloc | apply pw_below_drewN | apply below_drew1) | exact HB.out)))); have n2_ := Aside0.mk (below_step (by repeat (first | (with_reducible first | exact HB.out | apply below_alloc | apply pw_below_drewN | apply below_drew1) | exact HB.out)) hb); clear HO201; clear HB; have HO201 := n0_; have HO205 := n1_; have HB := n2_; clear n0_ n1_ n2_; (try clear hb); (try clear hb2); (try clear hk); (try clear hi); (try clear ho0); (try simp only [errW_none, errW_some, erT_no, erV_no, erT_at, erV_at])) | ((with_reducible refine gate_callee (f := 31) rfl ?_); refine goesL_ (some 29) rfl rfl Try.func31 (by kernel_rfl) rfl #[.slice A0 y195.length c0, .slice Ao109 t199.length co109] rfl (by (try simp only [List.map_toArray, List.map_cons, List.map_nil]); first | done | rfl | (simp only [List.length_drop, List.length_take]; rfl)) ?_; (with_reducible refine (edit_Invert.calls k _ _ y195 _ _ t199 t206 (some q241) _ ?side1 ?side2 ?side3 ?side4 A8.out).mono ?_); (case side1 => repeat (first | exact (Kd.C_below HR198.out HB.out) | (with_reducible refine Kd.C_alloc ?_ _) | (with_reducible refine Kd.C_drewN ?_ _) | (with_reducible refine Kd.C_drew ?_))); (case side2 => exact HC198.out); (case side3 => repeat (first | exact (Kd.R_reads' HO201.out).2.2 | (with_reducible refine Kd.C_alloc ?_ _) | (with_reducible refine Kd.C_drewN ?_ _) | (with_reducible refine Kd.C_drew ?_))); (case side4 => exact (Kd.R_reads' HO201.out).2.1); rintro e w111 ⟨v208, rfl, ho0, hb⟩; refine ⟨_, rfl, ?_⟩; have n0_ := Aside0.mk (Kd.R_elder' (by (with_reducible repeat (first | apply Kd.R_alloc | apply Kd.R_drewN | apply Kd.R_drew)); exact HO201.out) (Kd.R_base ho0) hb); have n1_ := Aside0.mk (Kd.R_below (by (with_reducible repeat (first | apply Kd.R_alloc | apply Kd.R_drewN | apply Kd.R_drew)); exact HO205.out) hb); have n2_ := Aside0.mk (Kd.R_lower (Kd.R_new' ho0 (Kd.R_lt (by (with_reducible repeat (first | apply Kd.R_alloc | apply Kd.R_drewN | apply Kd.R_drew)); exact HO201.out))) (below_size (by repeat (first | (with_reducible first | exact HB.out | apply below_alloc | apply pw_below_drewN | apply below_drew1) | exact HB.out)))); have n3_ := Aside0.mk (below_step (by repeat (first | (with_reducible first | exact HB.out | apply below_alloc | apply pw_below_drewN | apply below_drew1) | exact HB.out)) hb); clear HO201; clear HO205; clear HB; have HO201 := n0_; have HO205 := n1_; have HO209 := n2_; have HB := n3_; clear n0_ n1_ n2_ n3_; (try clear hb); (try clear hb2); (try clear hk); (try clear hi); (try clear ho0); (try simp only [errW_none, errW_some, erT_no, erV_no, erT_at, erV_at]); obtain ⟨Ao112, co112, eo112⟩ := Kd.R_slice HO209.out; subst eo112; have CA102 := fun W => cavillaw01_Code.calls k (some q210) t242 W A102.out; try simp only [errW_none, errW_some, erT_no, erV_no, erT_at, erV_at] at CA102) | (go_at_call 32; (with_reducible refine (CA102 _).mono ?_); rintro e w113 ⟨rfl, hb⟩; have n0_ := Aside0.mk (Kd.R_below (by (with_reducible repeat (first | apply Kd.R_alloc | apply Kd.R_drewN | apply Kd.R_drew)); exact HO201.out) hb); have n1_ := Aside0.mk (Kd.R_below (by (with_reducible repeat (first | apply Kd.R_alloc | apply Kd.R_drewN | apply Kd.R_drew)); exact HO205.out) hb); have n2_ := Aside0.mk (Kd.R_below (by (with_reducible repeat (first | apply Kd.R_alloc | apply Kd.R_drewN | apply Kd.R_drew)); exact HO209.out) hb); have n3_ := Aside0.mk (below_step (by repeat (first | (with_reducible first | exact HB.out | apply below_alloc | apply pw_below_drewN | apply below_drew1) | exact HB.out)) hb); clear HO201; clear HO205; clear HO209; clear HB; have HO201 := n0_; have HO205 := n1_; have HO209 := n2_; have HB := n3_; clear n0_ n1_ n2_ n3_; (try clear hb); (try clear hb2); (try clear hk); (try clear hi); have CA103 := fun W => cavillaw01_Code.calls k (some q241) t243 W A103.out; try simp only [errW_none, errW_some, erT_no, erV_no, erT_at, erV_at] at CA103) | (go_at_call 32; (with_reducible refine (CA103 _).mono ?_); rintro e w114 ⟨rfl, hb⟩; have n0_ := Aside0.mk (Kd.R_below (by (with_reducible repeat (first | apply Kd.R_alloc | apply Kd.R_drewN | apply Kd.R_drew)); exact HO201.out) hb); have n1_ := Aside0.mk (Kd.R_below (by (with_reducible repeat (first | apply Kd.R_alloc | apply Kd.R_drewN | apply Kd.R_drew)); exact HO205.out) hb); have n2_ := Aside0.mk (Kd.R_below (by (with_reducible repeat (first | apply Kd.R_alloc | apply Kd.R_drewN | apply Kd.R_drew)); exact HO209.out) hb); have n3_ := Aside0.mk (below_step (by repeat (first | (with_reducible first | exact HB.out | apply below_alloc | apply pw_below_drewN | apply below_drew1) | exact HB.out)) hb); clear HO201; clear HO205; clear HO209; clear HB; have HO201 := n0_; have HO205 := n1_; have HO209 := n2_; have HB := n3_; clear n0_ n1_ n2_ n3_; (try clear hb); (try clear hb2); (try clear hk); (try clear hi)) | (go_at_call 29; (with_reducible refine (cavillaw04_works.calls k  t244 _ A105.out).mono ?_); rintro e w115 ⟨rfl, hb⟩; have n0_ := Aside0.mk (Kd.R_below (by (with_reducible repeat (first | apply Kd.R_alloc | apply Kd.R_drewN | apply Kd.R_drew)); exact HO201.out) hb); have n1_ := Aside0.mk (Kd.R_below (by (with_reducible repeat (first | apply Kd.R_alloc | apply Kd.R_drewN | apply Kd.R_drew)); exact HO205.out) hb); have n2_ := Aside0.mk (Kd.R_below (by (with_reducible repeat (first | apply Kd.R_alloc | apply Kd.R_drewN | apply Kd.R_drew)); exact HO209.out) hb); have n3_ := Aside0.mk (below_step (by repeat (first | (with_reducible first | exact HB.out | apply below_alloc | apply pw_below_drewN | apply below_drew1) | exact HB.out)) hb); clear HO201; clear HO205; clear HO209; clear HB; have HO201 := n0_; have HO205 := n1_; have HO209 := n2_; have HB := n3_; clear n0_ n1_ n2_ n3_; (try clear hb); (try clear hb2); (try clear hk); (try clear hi)))
              go_ret
              exact ⟨by first | rfl | (simp [errW_none, errW_some, erT_no, erV_no, erT_at, erV_at] <;> rfl) | (simp only [← hji3]; first | rfl | (simp [errW_none, errW_some, erT_no, erV_no, erT_at, erV_at] <;> rfl)) | (simp [*, errW_none, errW_some, erT_no, erV_no, erT_at, erV_at] <;> rfl), by repeat (first | (with_reducible first | exact HB.out | apply below_alloc | apply pw_below_drewN | apply below_drew1) | exact HB.out)⟩
            · rw [if_neg c104] at H
              have c104b0 : (t242 == t243) = false := beq_eq_false_iff_ne.mpr c104
              have c104b1 : (t242 != t243) = true := bne_iff_ne.mpr c104
              obtain rfl := Option.some.inj H
              go_enter Try.func7, Try.ntmps7
              try go_wp2
              have n0_ := Aside0.mk (below_drew1 HB.out)
              clear HB
              have HB := n0_
              clear n0_
              have q117 : ((ji3) : Int) ≤ ((l0.length : Int) : Int) := of_decide_eq_true (by first | (with_reducible assumption) | assumption)
              obtain ⟨i0117, hi0117, _, hsz117, _⟩ := info_parts info5
              have hroom117 : l0.length ≤ c0 := HC0.out
              have hC117 : Kd.C (Kd.int .u8) _ A0 l0.length l0 := HR0.out
              have hcut117 := cut_to (P := Try.prog) 22 5 .i64 Try.underlying22 hi0117 A0 l0.length c0 (ji3) (of_decide_eq_true (by first | (with_reducible assumption) | assumption)) q117 hroom117
              have hr117 := Kd.C_take (m := ((ji3) : Int).toNat) hC117 (by omega)
              have hy117 : y195.length = ((ji3) : Int).toNat := (by rw [Ny195.out, List.length_take]; omega)
              rw [← Ny195.out] at hr117
              rw [← hy117] at hcut117
              have HR198 := Aside0.mk hr117
              have HC198 := Aside0.mk (show y195.length ≤ c0 from by omega)
              clear hr117 hC117 hroom117 hi0117 hsz117
              have KY117 := Aside0.mk hy117
              clear hy117
              replace q117 := eq_true q117
              refine start_ (n := 9) (S := fun w' => True) (ds := []) #[false, false, false, false, false, false, false, false, false] (by kernel_rfl) rfl rfl trivial (fun hHeld => ?_); refine with_tabW cavillaw04_EditBack.tab1 cavillaw04_EditBack.bits1 (fun HT_ HW_ => ?_)
              generalize w.drew = w116 at HB HR198 hHeld ⊢
              refine pure_ (i := 0) (N := some 13) (v := ?_) (a' := ?_) #[true, false, false, false, false, false, false, false, false] rfl rfl (any_of HT_.out (by kernel_rfl)) (fun _ _ _ h => h) (Or.inl ⟨by rfl, ?_⟩) ?_ ?_; rotate_left; { intro w'; go_simp; with_reducible rfl }; rotate_left; { simp only [Act.put, List.setIfInBounds_toArray, List.set_cons_zero, List.set_cons_succ, i64_w, i32_w]; rfl }
              refine pure_ (i := 1) (N := some 14) (v := ?_) (a' := ?_) #[true, true, false, false, false, false, false, false, false] rfl rfl (any_of HT_.out (by kernel_rfl)) (fun _ _ _ h => h) (Or.inl ⟨by rfl, ?_⟩) ?_ ?_; rotate_left; { intro w'; go_simp; with_reducible rfl }; rotate_left; { simp only [Act.put, List.setIfInBounds_toArray, List.set_cons_zero, List.set_cons_succ, i64_w, i32_w]; rfl }
              refine pure_ (i := 2) (N := some 15) (v := ?_) (a' := ?_) #[true, true, true, false, false, false, false, false, false] rfl rfl (any_of HT_.out (by kernel_rfl)) (fun _ _ _ h => h) (Or.inl ⟨by rfl, ?_⟩) ?_ ?_; rotate_left; { intro w'; go_simp; with_reducible rfl }; rotate_left; { simp only [Act.put, List.setIfInBounds_toArray, List.set_cons_zero, List.set_cons_succ, i64_w, i32_w]; rfl }
              refine pure_ (i := 3) (N := some 16) (v := ?_) (a' := ?_) #[true, true, true, true, false, false, false, false, false] rfl rfl (any_of HT_.out (by kernel_rfl)) (fun _ _ _ h => h) (Or.inl ⟨by rfl, ?_⟩) ?_ ?_; rotate_left; { intro w'; go_simp; with_reducible rfl }; rotate_left; { simp only [Act.put, List.setIfInBounds_toArray, List.set_cons_zero, List.set_cons_succ, i64_w, i32_w]; rfl }
              refine pure_ (i := 4) (N := some 17) (v := ?_) (a' := ?_) #[true, true, true, true, true, false, false, false, false] rfl rfl (any_of HT_.out (by kernel_rfl)) (fun _ _ _ h => h) (Or.inl ⟨by rfl, ?_⟩) ?_ ?_; rotate_left; { intro w'; go_simp; with_reducible rfl }; rotate_left; { simp only [Act.put, List.setIfInBounds_toArray, List.set_cons_zero, List.set_cons_succ, i64_w, i32_w]; rfl }
              refine pure_ (i := 5) (N := some 18) (v := ?_) (a' := ?_) #[true, true, true, true, true, true, false, false, false] rfl rfl (any_of HT_.out (by kernel_rfl)) (fun _ _ _ h => h) (Or.inl ⟨by rfl, ?_⟩) ?_ ?_; rotate_left; { intro w'; go_simp; with_reducible rfl }; rotate_left; { simp only [Act.put, List.setIfInBounds_toArray, List.set_cons_zero, List.set_cons_succ, i64_w, i32_w]; rfl }
              refine one_ (i := 6) (N := some 19) #[true, true, true, true, true, true, true, false, false] rfl rfl (one_of HT_.out (by kernel_rfl)) (by decide) (fun K hK => ?_)
              refine goes_ Try.func22 (by kernel_rfl) rfl #[.slice A1 l1.length c1] (by rfl) rfl rfl (by (try simp only [List.map_toArray, List.map_cons, List.map_nil]); first | done | rfl | (simp only [List.length_drop, List.length_take]; rfl)) ?_
              with_reducible refine (cavillaw04_few.calls k _ _ l1 t199 _ ?side1 ?side2 A6.out).mono ?_
              (case side1 => repeat (first | exact (Kd.C_below HR1.out HB.out) | (with_reducible refine Kd.C_alloc ?_ _) | (with_reducible refine Kd.C_drewN ?_ _) | (with_reducible refine Kd.C_drew ?_)))
              (case side2 => exact HC1.out)
              rintro e w118 ⟨v200, rfl, ho0, hb⟩
              refine ⟨_, rfl, ?_⟩
              have n0_ := Aside0.mk (Kd.R_lower ho0 (below_size (by repeat (first | (with_reducible first | exact HB.out | apply below_alloc | apply pw_below_drewN | apply below_drew1) | exact HB.out))))
              have n1_ := Aside0.mk (below_step (by repeat (first | (with_reducible first | exact HB.out | apply below_alloc | apply pw_below_drewN | apply below_drew1) | exact HB.out)) hb)
              clear HB
              have HO201 := n0_
              have HB := n1_
              clear n0_ n1_
              (try clear hb)
              (try clear hb2)
              (try clear hk)
              (try clear hi)
              (try clear ho0)
              refine hK.out _ _ trivial (fun hHeld => ?_)
              clear hK K
              refine norm_ (a' := ?_) ?_ ?_; rotate_left; { show Act.put _ (some 19) _ = _; simp only [Act.put, List.setIfInBounds_toArray, List.set_cons_zero, List.set_cons_succ, i64_w, i32_w]; rfl }
              refine pure_ (i := 7) (N := some 0) (v := ?_) (a' := ?_) #[true, true, true, true, true, true, true, true, false] rfl rfl (any_of HT_.out (by kernel_rfl)) (fun _ _ _ h => h) (Or.inl ⟨by rfl, ?_⟩) ?_ ?_; rotate_left; { intro w'; go_simp; with_reducible rfl }; rotate_left; { simp only [Act.put, List.setIfInBounds_toArray, List.set_cons_zero, List.set_cons_succ, i64_w, i32_w]; rfl }
              refine pure_ (i := 8) (N := some 1) (v := ?_) (a' := ?_) #[true, true, true, true, true, true, true, true, true] rfl rfl (any_of HT_.out (by kernel_rfl)) (fun _ _ _ h => h) (Or.inl ⟨by rfl, ?_⟩) ?_ ?_; rotate_left; { intro w'; go_simp; with_reducible rfl }; rotate_left; { simp only [Act.put, List.setIfInBounds_toArray, List.set_cons_zero, List.set_cons_succ, i64_w, i32_w]; rfl }
              refine done_ (done_of HT_.out (by kernel_rfl)) ?_
              obtain ⟨Ao119, co119, eo119⟩ := Kd.R_slice HO201.out
              subst eo119
              try go_wp2_with (first | ((with_reducible refine gate_callee (f := 30) rfl ?_); refine goesL_ (some 23) rfl rfl Try.func30 (by kernel_rfl) rfl #[.slice A0 y195.length c0, .slice Ao119 t199.length co119] rfl (by (try simp only [List.map_toArray, List.map_cons, List.map_nil]); first | done | rfl | (simp only [List.length_drop, List.length_take]; rfl)) ?_; (with_reducible refine (edit_Apply.calls k _ _ y195 _ _ t199 t202 (some q210) _ ?side1 ?side2 ?side3 ?side4 A7.out).mono ?_); (case side1 => repeat (first | exact (Kd.C_below HR198.out HB.out) | (with_reducible refine Kd.C_alloc ?_ _) | (with_reducible refine Kd.C_drewN ?_ _) | (with_reducible refine Kd.C_drew ?_))); (case side2 => exact HC198.out); (case side3 => repeat (first | exact (Kd.R_reads' HO201.out).2.2 | (with_reducible refine Kd.C_alloc ?_ _) | (with_reducible refine Kd.C_drewN ?_ _) | (with_reducible refine Kd.C_drew ?_))); (case side4 => exact (Kd.R_reads' HO201.out).2.1); rintro e w120 ⟨v204, rfl, ho0, hb⟩; refine ⟨_, rfl, ?_⟩; have n0_ := Aside0.mk (Kd.R_below (by (with_reducible repeat (first | apply Kd.R_alloc | apply Kd.R_drewN | apply Kd.R_drew)); exact HO201.out) hb); have n1_ := Aside0.mk (Kd.R_lower ho0 (below_size (by repeat (first | (with_reducible first | exact HB.out | apply below_alloc | apply pw_below_drewN | apply below_drew1) | exact HB.out)))); have n2_ := Aside0.mk (below_step (by repeat (first | (with_reducible first | exact HB.out | apply below_alloc | apply pw_below_drewN | apply below_drew1) | exact HB.out)) hb); clear HO201; clear HB; have HO201 := n0_; have HO205 := n1_; have HB := n2_; clear n0_ n1_ n2_; (try clear hb); (try clear hb2); (try clear hk); (try clear hi); (try clear ho0); (try simp only [errW_none, errW_some, erT_no, erV_no, erT_at, erV_at])) | ((with_reducible refine gate_callee (f := 31) rfl ?_); refine goesL_ (some 29) rfl rfl Try.func31 (by kernel_rfl) rfl #[.slice A0 y195.length c0, .slice Ao119 t199.length co119] rfl (by (try simp only [List.map_toArray, List.map_cons, List.map_nil]); first | done | rfl | (simp only [List.length_drop, List.length_take]; rfl)) ?_; (with_reducible refine (edit_Invert.calls k _ _ y195 _ _ t199 t206 (some q241) _ ?side1 ?side2 ?side3 ?side4 A8.out).mono ?_); (case side1 => repeat (first | exact (Kd.C_below HR198.out HB.out) | (with_reducible refine Kd.C_alloc ?_ _) | (with_reducible refine Kd.C_drewN ?_ _) | (with_reducible refine Kd.C_drew ?_))); (case side2 => exact HC198.out); (case side3 => repeat (first | exact (Kd.R_reads' HO201.out).2.2 | (with_reducible refine Kd.C_alloc ?_ _) | (with_reducible refine Kd.C_drewN ?_ _) | (with_reducible refine Kd.C_drew ?_))); (case side4 => exact (Kd.R_reads' HO201.out).2.1); rintro e w121 ⟨v208, rfl, ho0, hb⟩; refine ⟨_, rfl, ?_⟩; have n0_ := Aside0.mk (Kd.R_elder' (by (with_reducible repeat (first | apply Kd.R_alloc | apply Kd.R_drewN | apply Kd.R_drew)); exact HO201.out) (Kd.R_base ho0) hb); have n1_ := Aside0.mk (Kd.R_below (by (with_reducible repeat (first | apply Kd.R_alloc | apply Kd.R_drewN | apply Kd.R_drew)); exact HO205.out) hb); have n2_ := Aside0.mk (Kd.R_lower (Kd.R_new' ho0 (Kd.R_lt (by (with_reducible repeat (first | apply Kd.R_alloc | apply Kd.R_drewN | apply Kd.R_drew)); exact HO201.out))) (below_size (by repeat (first | (with_reducible first | exact HB.out | apply below_alloc | apply pw_below_drewN | apply below_drew1) | exact HB.out)))); have n3_ := Aside0.mk (below_step (by repeat (first | (with_reducible first | exact HB.out | apply below_alloc | apply pw_below_drewN | apply below_drew1) | exact HB.out)) hb); clear HO201; clear HO205; clear HB; have HO201 := n0_; have HO205 := n1_; have HO209 := n2_; have HB := n3_; clear n0_ n1_ n2_ n3_; (try clear hb); (try clear hb2); (try clear hk); (try clear hi); (try clear ho0); (try simp only [errW_none, errW_some, erT_no, erV_no, erT_at, erV_at]); obtain ⟨Ao122, co122, eo122⟩ := Kd.R_slice HO209.out; subst eo122; have CA102 := fun W => cavillaw01_Code.calls k (some q210) t242 W A102.out; try simp only [errW_none, errW_some, erT_no, erV_no, erT_at, erV_at] at CA102) | (go_at_call 32; (with_reducible refine (CA102 _).mono ?_); rintro e w123 ⟨rfl, hb⟩; have n0_ := Aside0.mk (Kd.R_below (by (with_reducible repeat (first | apply Kd.R_alloc | apply Kd.R_drewN | apply Kd.R_drew)); exact HO201.out) hb); have n1_ := Aside0.mk (Kd.R_below (by (with_reducible repeat (first | apply Kd.R_alloc | apply Kd.R_drewN | apply Kd.R_drew)); exact HO205.out) hb); have n2_ := Aside0.mk (Kd.R_below (by (with_reducible repeat (first | apply Kd.R_alloc | apply Kd.R_drewN | apply Kd.R_drew)); exact HO209.out) hb); have n3_ := Aside0.mk (below_step (by repeat (first | (with_reducible first | exact HB.out | apply below_alloc | apply pw_below_drewN | apply below_drew1) | exact HB.out)) hb); clear HO201; clear HO205; clear HO209; clear HB; have HO201 := n0_; have HO205 := n1_; have HO209 := n2_; have HB := n3_; clear n0_ n1_ n2_ n3_; (try clear hb); (try clear hb2); (try clear hk); (try clear hi); have CA103 := fun W => cavillaw01_Code.calls k (some q241) t243 W A103.out; try simp only [errW_none, errW_some, erT_no, erV_no, erT_at, erV_at] at CA103) | (go_at_call 32; (with_reducible refine (CA103 _).mono ?_); rintro e w124 ⟨rfl, hb⟩; have n0_ := Aside0.mk (Kd.R_below (by (with_reducible repeat (first | apply Kd.R_alloc | apply Kd.R_drewN | apply Kd.R_drew)); exact HO201.out) hb); have n1_ := Aside0.mk (Kd.R_below (by (with_reducible repeat (first | apply Kd.R_alloc | apply Kd.R_drewN | apply Kd.R_drew)); exact HO205.out) hb); have n2_ := Aside0.mk (Kd.R_below (by (with_reducible repeat (first | apply Kd.R_alloc | apply Kd.R_drewN | apply Kd.R_drew)); exact HO209.out) hb); have n3_ := Aside0.mk (below_step (by repeat (first | (with_reducible first | exact HB.out | apply below_alloc | apply pw_below_drewN | apply below_drew1) | exact HB.out)) hb); clear HO201; clear HO205; clear HO209; clear HB; have HO201 := n0_; have HO205 := n1_; have HO209 := n2_; have HB := n3_; clear n0_ n1_ n2_ n3_; (try clear hb); (try clear hb2); (try clear hk); (try clear hi)))
              go_ret
              exact ⟨by first | rfl | (simp [errW_none, errW_some, erT_no, erV_no, erT_at, erV_at] <;> rfl) | (simp only [← hji3]; first | rfl | (simp [errW_none, errW_some, erT_no, erV_no, erT_at, erV_at] <;> rfl)) | (simp [*, errW_none, errW_some, erT_no, erV_no, erT_at, erV_at] <;> rfl), by repeat (first | (with_reducible first | exact HB.out | apply below_alloc | apply pw_below_drewN | apply below_drew1) | exact HB.out)⟩
          · rw [if_neg c101] at H
            have c101b0 : ((t206.length : Int) == 0) = false := beq_eq_false_iff_ne.mpr c101
            have c101b1 : ((t206.length : Int) != 0) = true := bne_iff_ne.mpr c101
            have c101b2 : ¬ (t206 = []) := fun h_ => c101 (by rw [h_]; rfl)
            obtain rfl := Option.some.inj H
            go_enter Try.func7, Try.ntmps7
            try go_wp2
            have n0_ := Aside0.mk (below_drew1 HB.out)
            clear HB
            have HB := n0_
            clear n0_
            have q126 : ((ji3) : Int) ≤ ((l0.length : Int) : Int) := of_decide_eq_true (by first | (with_reducible assumption) | assumption)
            obtain ⟨i0126, hi0126, _, hsz126, _⟩ := info_parts info5
            have hroom126 : l0.length ≤ c0 := HC0.out
            have hC126 : Kd.C (Kd.int .u8) _ A0 l0.length l0 := HR0.out
            have hcut126 := cut_to (P := Try.prog) 22 5 .i64 Try.underlying22 hi0126 A0 l0.length c0 (ji3) (of_decide_eq_true (by first | (with_reducible assumption) | assumption)) q126 hroom126
            have hr126 := Kd.C_take (m := ((ji3) : Int).toNat) hC126 (by omega)
            have hy126 : y195.length = ((ji3) : Int).toNat := (by rw [Ny195.out, List.length_take]; omega)
            rw [← Ny195.out] at hr126
            rw [← hy126] at hcut126
            have HR198 := Aside0.mk hr126
            have HC198 := Aside0.mk (show y195.length ≤ c0 from by omega)
            clear hr126 hC126 hroom126 hi0126 hsz126
            have KY126 := Aside0.mk hy126
            clear hy126
            replace q126 := eq_true q126
            refine start_ (n := 9) (S := fun w' => True) (ds := []) #[false, false, false, false, false, false, false, false, false] (by kernel_rfl) rfl rfl trivial (fun hHeld => ?_); refine with_tabW cavillaw04_EditBack.tab1 cavillaw04_EditBack.bits1 (fun HT_ HW_ => ?_)
            generalize w.drew = w125 at HB HR198 hHeld ⊢
            refine pure_ (i := 0) (N := some 13) (v := ?_) (a' := ?_) #[true, false, false, false, false, false, false, false, false] rfl rfl (any_of HT_.out (by kernel_rfl)) (fun _ _ _ h => h) (Or.inl ⟨by rfl, ?_⟩) ?_ ?_; rotate_left; { intro w'; go_simp; with_reducible rfl }; rotate_left; { simp only [Act.put, List.setIfInBounds_toArray, List.set_cons_zero, List.set_cons_succ, i64_w, i32_w]; rfl }
            refine pure_ (i := 1) (N := some 14) (v := ?_) (a' := ?_) #[true, true, false, false, false, false, false, false, false] rfl rfl (any_of HT_.out (by kernel_rfl)) (fun _ _ _ h => h) (Or.inl ⟨by rfl, ?_⟩) ?_ ?_; rotate_left; { intro w'; go_simp; with_reducible rfl }; rotate_left; { simp only [Act.put, List.setIfInBounds_toArray, List.set_cons_zero, List.set_cons_succ, i64_w, i32_w]; rfl }
            refine pure_ (i := 2) (N := some 15) (v := ?_) (a' := ?_) #[true, true, true, false, false, false, false, false, false] rfl rfl (any_of HT_.out (by kernel_rfl)) (fun _ _ _ h => h) (Or.inl ⟨by rfl, ?_⟩) ?_ ?_; rotate_left; { intro w'; go_simp; with_reducible rfl }; rotate_left; { simp only [Act.put, List.setIfInBounds_toArray, List.set_cons_zero, List.set_cons_succ, i64_w, i32_w]; rfl }
            refine pure_ (i := 3) (N := some 16) (v := ?_) (a' := ?_) #[true, true, true, true, false, false, false, false, false] rfl rfl (any_of HT_.out (by kernel_rfl)) (fun _ _ _ h => h) (Or.inl ⟨by rfl, ?_⟩) ?_ ?_; rotate_left; { intro w'; go_simp; with_reducible rfl }; rotate_left; { simp only [Act.put, List.setIfInBounds_toArray, List.set_cons_zero, List.set_cons_succ, i64_w, i32_w]; rfl }
            refine pure_ (i := 4) (N := some 17) (v := ?_) (a' := ?_) #[true, true, true, true, true, false, false, false, false] rfl rfl (any_of HT_.out (by kernel_rfl)) (fun _ _ _ h => h) (Or.inl ⟨by rfl, ?_⟩) ?_ ?_; rotate_left; { intro w'; go_simp; with_reducible rfl }; rotate_left; { simp only [Act.put, List.setIfInBounds_toArray, List.set_cons_zero, List.set_cons_succ, i64_w, i32_w]; rfl }
            refine pure_ (i := 5) (N := some 18) (v := ?_) (a' := ?_) #[true, true, true, true, true, true, false, false, false] rfl rfl (any_of HT_.out (by kernel_rfl)) (fun _ _ _ h => h) (Or.inl ⟨by rfl, ?_⟩) ?_ ?_; rotate_left; { intro w'; go_simp; with_reducible rfl }; rotate_left; { simp only [Act.put, List.setIfInBounds_toArray, List.set_cons_zero, List.set_cons_succ, i64_w, i32_w]; rfl }
            refine one_ (i := 6) (N := some 19) #[true, true, true, true, true, true, true, false, false] rfl rfl (one_of HT_.out (by kernel_rfl)) (by decide) (fun K hK => ?_)
            refine goes_ Try.func22 (by kernel_rfl) rfl #[.slice A1 l1.length c1] (by rfl) rfl rfl (by (try simp only [List.map_toArray, List.map_cons, List.map_nil]); first | done | rfl | (simp only [List.length_drop, List.length_take]; rfl)) ?_
            with_reducible refine (cavillaw04_few.calls k _ _ l1 t199 _ ?side1 ?side2 A6.out).mono ?_
            (case side1 => repeat (first | exact (Kd.C_below HR1.out HB.out) | (with_reducible refine Kd.C_alloc ?_ _) | (with_reducible refine Kd.C_drewN ?_ _) | (with_reducible refine Kd.C_drew ?_)))
            (case side2 => exact HC1.out)
            rintro e w127 ⟨v200, rfl, ho0, hb⟩
            refine ⟨_, rfl, ?_⟩
            have n0_ := Aside0.mk (Kd.R_lower ho0 (below_size (by repeat (first | (with_reducible first | exact HB.out | apply below_alloc | apply pw_below_drewN | apply below_drew1) | exact HB.out))))
            have n1_ := Aside0.mk (below_step (by repeat (first | (with_reducible first | exact HB.out | apply below_alloc | apply pw_below_drewN | apply below_drew1) | exact HB.out)) hb)
            clear HB
            have HO201 := n0_
            have HB := n1_
            clear n0_ n1_
            (try clear hb)
            (try clear hb2)
            (try clear hk)
            (try clear hi)
            (try clear ho0)
            refine hK.out _ _ trivial (fun hHeld => ?_)
            clear hK K
            refine norm_ (a' := ?_) ?_ ?_; rotate_left; { show Act.put _ (some 19) _ = _; simp only [Act.put, List.setIfInBounds_toArray, List.set_cons_zero, List.set_cons_succ, i64_w, i32_w]; rfl }
            refine pure_ (i := 7) (N := some 0) (v := ?_) (a' := ?_) #[true, true, true, true, true, true, true, true, false] rfl rfl (any_of HT_.out (by kernel_rfl)) (fun _ _ _ h => h) (Or.inl ⟨by rfl, ?_⟩) ?_ ?_; rotate_left; { intro w'; go_simp; with_reducible rfl }; rotate_left; { simp only [Act.put, List.setIfInBounds_toArray, List.set_cons_zero, List.set_cons_succ, i64_w, i32_w]; rfl }
            refine pure_ (i := 8) (N := some 1) (v := ?_) (a' := ?_) #[true, true, true, true, true, true, true, true, true] rfl rfl (any_of HT_.out (by kernel_rfl)) (fun _ _ _ h => h) (Or.inl ⟨by rfl, ?_⟩) ?_ ?_; rotate_left; { intro w'; go_simp; with_reducible rfl }; rotate_left; { simp only [Act.put, List.setIfInBounds_toArray, List.set_cons_zero, List.set_cons_succ, i64_w, i32_w]; rfl }
            refine done_ (done_of HT_.out (by kernel_rfl)) ?_
            obtain ⟨Ao128, co128, eo128⟩ := Kd.R_slice HO201.out
            subst eo128
            try go_wp2_with (first | ((with_reducible refine gate_callee (f := 30) rfl ?_); refine goesL_ (some 23) rfl rfl Try.func30 (by kernel_rfl) rfl #[.slice A0 y195.length c0, .slice Ao128 t199.length co128] rfl (by (try simp only [List.map_toArray, List.map_cons, List.map_nil]); first | done | rfl | (simp only [List.length_drop, List.length_take]; rfl)) ?_; (with_reducible refine (edit_Apply.calls k _ _ y195 _ _ t199 t202 (some q210) _ ?side1 ?side2 ?side3 ?side4 A7.out).mono ?_); (case side1 => repeat (first | exact (Kd.C_below HR198.out HB.out) | (with_reducible refine Kd.C_alloc ?_ _) | (with_reducible refine Kd.C_drewN ?_ _) | (with_reducible refine Kd.C_drew ?_))); (case side2 => exact HC198.out); (case side3 => repeat (first | exact (Kd.R_reads' HO201.out).2.2 | (with_reducible refine Kd.C_alloc ?_ _) | (with_reducible refine Kd.C_drewN ?_ _) | (with_reducible refine Kd.C_drew ?_))); (case side4 => exact (Kd.R_reads' HO201.out).2.1); rintro e w129 ⟨v204, rfl, ho0, hb⟩; refine ⟨_, rfl, ?_⟩; have n0_ := Aside0.mk (Kd.R_below (by (with_reducible repeat (first | apply Kd.R_alloc | apply Kd.R_drewN | apply Kd.R_drew)); exact HO201.out) hb); have n1_ := Aside0.mk (Kd.R_lower ho0 (below_size (by repeat (first | (with_reducible first | exact HB.out | apply below_alloc | apply pw_below_drewN | apply below_drew1) | exact HB.out)))); have n2_ := Aside0.mk (below_step (by repeat (first | (with_reducible first | exact HB.out | apply below_alloc | apply pw_below_drewN | apply below_drew1) | exact HB.out)) hb); clear HO201; clear HB; have HO201 := n0_; have HO205 := n1_; have HB := n2_; clear n0_ n1_ n2_; (try clear hb); (try clear hb2); (try clear hk); (try clear hi); (try clear ho0); (try simp only [errW_none, errW_some, erT_no, erV_no, erT_at, erV_at])) | ((with_reducible refine gate_callee (f := 31) rfl ?_); refine goesL_ (some 29) rfl rfl Try.func31 (by kernel_rfl) rfl #[.slice A0 y195.length c0, .slice Ao128 t199.length co128] rfl (by (try simp only [List.map_toArray, List.map_cons, List.map_nil]); first | done | rfl | (simp only [List.length_drop, List.length_take]; rfl)) ?_; (with_reducible refine (edit_Invert.calls k _ _ y195 _ _ t199 t206 (some q241) _ ?side1 ?side2 ?side3 ?side4 A8.out).mono ?_); (case side1 => repeat (first | exact (Kd.C_below HR198.out HB.out) | (with_reducible refine Kd.C_alloc ?_ _) | (with_reducible refine Kd.C_drewN ?_ _) | (with_reducible refine Kd.C_drew ?_))); (case side2 => exact HC198.out); (case side3 => repeat (first | exact (Kd.R_reads' HO201.out).2.2 | (with_reducible refine Kd.C_alloc ?_ _) | (with_reducible refine Kd.C_drewN ?_ _) | (with_reducible refine Kd.C_drew ?_))); (case side4 => exact (Kd.R_reads' HO201.out).2.1); rintro e w130 ⟨v208, rfl, ho0, hb⟩; refine ⟨_, rfl, ?_⟩; have n0_ := Aside0.mk (Kd.R_elder' (by (with_reducible repeat (first | apply Kd.R_alloc | apply Kd.R_drewN | apply Kd.R_drew)); exact HO201.out) (Kd.R_base ho0) hb); have n1_ := Aside0.mk (Kd.R_below (by (with_reducible repeat (first | apply Kd.R_alloc | apply Kd.R_drewN | apply Kd.R_drew)); exact HO205.out) hb); have n2_ := Aside0.mk (Kd.R_lower (Kd.R_new' ho0 (Kd.R_lt (by (with_reducible repeat (first | apply Kd.R_alloc | apply Kd.R_drewN | apply Kd.R_drew)); exact HO201.out))) (below_size (by repeat (first | (with_reducible first | exact HB.out | apply below_alloc | apply pw_below_drewN | apply below_drew1) | exact HB.out)))); have n3_ := Aside0.mk (below_step (by repeat (first | (with_reducible first | exact HB.out | apply below_alloc | apply pw_below_drewN | apply below_drew1) | exact HB.out)) hb); clear HO201; clear HO205; clear HB; have HO201 := n0_; have HO205 := n1_; have HO209 := n2_; have HB := n3_; clear n0_ n1_ n2_ n3_; (try clear hb); (try clear hb2); (try clear hk); (try clear hi); (try clear ho0); (try simp only [errW_none, errW_some, erT_no, erV_no, erT_at, erV_at]); obtain ⟨Ao131, co131, eo131⟩ := Kd.R_slice HO209.out; subst eo131))
            go_ret
            exact ⟨by first | rfl | (simp [errW_none, errW_some, erT_no, erV_no, erT_at, erV_at] <;> rfl) | (simp only [← hji3]; first | rfl | (simp [errW_none, errW_some, erT_no, erV_no, erT_at, erV_at] <;> rfl)) | (simp [*, errW_none, errW_some, erT_no, erV_no, erT_at, erV_at] <;> rfl), by repeat (first | (with_reducible first | exact HB.out | apply below_alloc | apply pw_below_drewN | apply below_drew1) | exact HB.out)⟩
    · rw [if_neg c5] at H
      exact absurd H (by simp)
  · rw [if_neg c4] at H
    exact absurd H (by simp)

end Go.Proofs.Ytnpgadfoohjlnaa.QB
