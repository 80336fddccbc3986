/- Where a Lean function of this text answers, the Go function of its name comes to that answer: no other condition. Written by a program of this session out of the translation; Lean checks it. -/
import Derived.Test.YtnpgadfoohjlnaaQV0
import Derived.Test.YtnpgadfoohjlnaaQV1
import Derived.Test.YtnpgadfoohjlnaaQV2
import Derived.Test.YtnpgadfoohjlnaaQV4
import Derived.Test.YtnpgadfoohjlnaaQV5
import Derived.Test.YtnpgadfoohjlnaaQV7
import Derived.Test.YtnpgadfoohjlnaaQV9
import Derived.Test.YtnpgadfoohjlnaaQV11
import Derived.Test.YtnpgadfoohjlnaaQV12
import Derived.Test.YtnpgadfoohjlnaaQV14
import Derived.Test.YtnpgadfoohjlnaaQV15
import Derived.Test.YtnpgadfoohjlnaaQV16
namespace Go.Proofs.Ytnpgadfoohjlnaa.QV
open Go.RowKit Go.Proofs.YtnpgadfoohjlnaaW.PrintWords Go.Proofs.YtnpgadfoohjlnaaW.PrintLast Go.Proofs.YtnpgadfoohjlnaaW.PrintMore Go.Proofs.YtnpgadfoohjlnaaW.PrintX
attribute [local go_sem] max2_int min2_int max_two min_two max_three min_three max_four min_four   -- for this text's walks alone
set_option linter.unusedVariables false
set_option linter.unusedSimpArgs false

attribute [local go_sem high] eqA40
/-! ### cavillaw15_ViewTells: function 4 -/
mutual
def cavillaw15_ViewTells.l0 : Nat → Int → Int → List (S72) → Bool → List Int → Int → Int → List Int → List (S38) → List (S44) → Option (Bool)
  | 0, _, _, _, _, _, _, _, _, _, _ => none
  | k + 1, x1, x2, x7, x9, x71, x72, x73, x382000, x382001, x382002 => if x73 < x72 then (if 0 ≤ x73 then (if x73 < (x71.length : Int) then (if x9 = true then (cavillaw15_ViewTells.l0 k x1 x2 x7 true x71 x72 (wrap64 (x73 + 1)) x382000 x382001 x382002) else (if 0 ≤ (rd x71 x73) then (if (rd x71 x73) < (x382001.length : Int) then (cavillaw15_ViewTells.l0 k x1 x2 x7 (((rd_T38 x382001 (rd x71 x73)).f0) == x2) x71 x72 (wrap64 (x73 + 1)) x382000 x382001 x382002) else (none)) else (none))) else (none)) else (none)) else ((cavilref15_In.f x382002 x1).bind fun t400 => (if t400 = true then (if 0 ≤ x1 then (if x1 < (x382002.length : Int) then (cavillaw15_ViewTells.j1 k x1 x2 x7 x9 (((rd_T44 x382002 x1).f0) == 0) x382000 x382001 x382002) else (none)) else (none)) else (cavillaw15_ViewTells.j1 k x1 x2 x7 x9 true x382000 x382001 x382002)))
def cavillaw15_ViewTells.j1 : Nat → Int → Int → List (S72) → Bool → Bool → List Int → List (S38) → List (S44) → Option (Bool)
  | 0, _, _, _, _, _, _, _, _ => none
  | k + 1, x1, x2, x7, x9, x12, x382000, x382001, x382002 => (view_File_Op.f k x7 x1).bind fun t402 => ((cavilref15_Op.f k x382001 x382002 x1).bind fun t403 => (if t402 = t403 then ((view_File_Chan.f k x7 x1).bind fun t404 => ((cavilref15_Chan.f k x382001 x382002 x1).bind fun t405 => (if t404 = t405 then ((view_File_Span.f k x7 x1).bind fun bt406 => ((cavilref15_Span.f k x382001 x382002 x1).bind fun bt408 => (if (bt406.1 == bt408.1 && (bt406.2 == bt408.2)) = true then ((view_File_Has.f k x7 x1 x2).bind fun t410 => (if (t410 == x9) = true then ((view_File_Empty.f x7 x1).bind fun t411 => (if (t411 == x12) = true then ((cavillaw15_works.f k).bind fun t412 => (some t412)) else (some false))) else (some false))) else (some false)))) else (some false)))) else (some false)))
end
def cavillaw15_ViewTells.f (k : Nat) (l0_0 : List Int) (l0_1 : List (S38)) (l0_2 : List (S44)) (a1 : Int) (a2 : Int) : Option (Bool) := (cavillaw15_few.f k l0_0 l0_1 l0_2).bind fun bt382 => ((view_New.f k bt382.1 bt382.2.1 bt382.2.2).bind fun bt391 => ((cavilref15_Own.f k bt382.2.2 a1).bind fun t395 => (cavillaw15_ViewTells.l0 k a1 a2 bt391.1 false t395 (t395.length : Int) 0 bt382.1 bt382.2.1 bt382.2.2)))
theorem cavillaw15_ViewTells.mono_l : ∀ k, (∀ y0 y1 y2 y3 y4 y5 y6 y7 y8 y9, LeO (cavillaw15_ViewTells.l0 k y0 y1 y2 y3 y4 y5 y6 y7 y8 y9) (cavillaw15_ViewTells.l0 (k + 1) y0 y1 y2 y3 y4 y5 y6 y7 y8 y9)) ∧ (∀ y0 y1 y2 y3 y4 y5 y6 y7, LeO (cavillaw15_ViewTells.j1 k y0 y1 y2 y3 y4 y5 y6 y7) (cavillaw15_ViewTells.j1 (k + 1) y0 y1 y2 y3 y4 y5 y6 y7))
  | 0 => ⟨fun _ _ _ _ _ _ _ _ _ _ r h => by simp [cavillaw15_ViewTells.l0] at h, fun _ _ _ _ _ _ _ _ r h => by simp [cavillaw15_ViewTells.j1] at h⟩
  | k + 1 => by
    obtain ⟨ih0, ih1⟩ := cavillaw15_ViewTells.mono_l k
    refine ⟨?_, ?_⟩
    · intro y0 y1 y2 y3 y4 y5 y6 y7 y8 y9
      unfold cavillaw15_ViewTells.l0
      repeat' first
      | (with_reducible exact ih0 _ _ _ _ _ _ _ _ _ _)
      | (with_reducible exact ih1 _ _ _ _ _ _ _ _)
      | (with_reducible exact cavillaw15_few.mono _ _ _ _)
      | (with_reducible exact cavillaw15_works.mono _)
      | (with_reducible exact cavilref15_Chan.mono _ _ _ _)
      | (with_reducible exact cavilref15_Op.mono _ _ _ _)
      | (with_reducible exact cavilref15_Own.mono _ _ _)
      | (with_reducible exact cavilref15_Span.mono _ _ _ _)
      | (with_reducible exact view_File_Chan.mono _ _ _)
      | (with_reducible exact view_File_Has.mono _ _ _ _)
      | (with_reducible exact view_File_Op.mono _ _ _)
      | (with_reducible exact view_File_Span.mono _ _ _)
      | (with_reducible exact view_New.mono _ _ _ _)
      | (with_reducible exact LeO.refl _)
      | (with_reducible exact LeO.none _)
      | (with_reducible refine LeO.ite ?_ ?_)
      | (with_reducible refine LeO.bind ?_ (fun _ => ?_))
      | exact ih0 _ _ _ _ _ _ _ _ _ _
      | exact ih1 _ _ _ _ _ _ _ _
      | exact cavillaw15_few.mono _ _ _ _
      | exact cavillaw15_works.mono _
      | exact cavilref15_Chan.mono _ _ _ _
      | exact cavilref15_Op.mono _ _ _ _
      | exact cavilref15_Own.mono _ _ _
      | exact cavilref15_Span.mono _ _ _ _
      | exact view_File_Chan.mono _ _ _
      | exact view_File_Has.mono _ _ _ _
      | exact view_File_Op.mono _ _ _
      | exact view_File_Span.mono _ _ _
      | exact view_New.mono _ _ _ _
      | exact LeO.none _
      | refine LeO.ite ?_ ?_
      | refine LeO.bind ?_ (fun _ => ?_)
    · intro y0 y1 y2 y3 y4 y5 y6 y7
      unfold cavillaw15_ViewTells.j1
      repeat' first
      | (with_reducible exact ih0 _ _ _ _ _ _ _ _ _ _)
      | (with_reducible exact ih1 _ _ _ _ _ _ _ _)
      | (with_reducible exact cavillaw15_few.mono _ _ _ _)
      | (with_reducible exact cavillaw15_works.mono _)
      | (with_reducible exact cavilref15_Chan.mono _ _ _ _)
      | (with_reducible exact cavilref15_Op.mono _ _ _ _)
      | (with_reducible exact cavilref15_Own.mono _ _ _)
      | (with_reducible exact cavilref15_Span.mono _ _ _ _)
      | (with_reducible exact view_File_Chan.mono _ _ _)
      | (with_reducible exact view_File_Has.mono _ _ _ _)
      | (with_reducible exact view_File_Op.mono _ _ _)
      | (with_reducible exact view_File_Span.mono _ _ _)
      | (with_reducible exact view_New.mono _ _ _ _)
      | (with_reducible exact LeO.refl _)
      | (with_reducible exact LeO.none _)
      | (with_reducible refine LeO.ite ?_ ?_)
      | (with_reducible refine LeO.bind ?_ (fun _ => ?_))
      | exact ih0 _ _ _ _ _ _ _ _ _ _
      | exact ih1 _ _ _ _ _ _ _ _
      | exact cavillaw15_few.mono _ _ _ _
      | exact cavillaw15_works.mono _
      | exact cavilref15_Chan.mono _ _ _ _
      | exact cavilref15_Op.mono _ _ _ _
      | exact cavilref15_Own.mono _ _ _
      | exact cavilref15_Span.mono _ _ _ _
      | exact view_File_Chan.mono _ _ _
      | exact view_File_Has.mono _ _ _ _
      | exact view_File_Op.mono _ _ _
      | exact view_File_Span.mono _ _ _
      | exact view_New.mono _ _ _ _
      | exact LeO.none _
      | refine LeO.ite ?_ ?_
      | refine LeO.bind ?_ (fun _ => ?_)
theorem cavillaw15_ViewTells.mono : ∀ a0 a1 a2 a3 a4 k, LeO (cavillaw15_ViewTells.f k a0 a1 a2 a3 a4) (cavillaw15_ViewTells.f (k + 1) a0 a1 a2 a3 a4) := by
  intro a0 a1 a2 a3 a4 k
  obtain ⟨ih0, ih1⟩ := cavillaw15_ViewTells.mono_l k
  unfold cavillaw15_ViewTells.f
  repeat' first
      | (with_reducible exact ih0 _ _ _ _ _ _ _ _ _ _)
      | (with_reducible exact ih1 _ _ _ _ _ _ _ _)
      | (with_reducible exact cavillaw15_few.mono _ _ _ _)
      | (with_reducible exact cavillaw15_works.mono _)
      | (with_reducible exact cavilref15_Chan.mono _ _ _ _)
      | (with_reducible exact cavilref15_Op.mono _ _ _ _)
      | (with_reducible exact cavilref15_Own.mono _ _ _)
      | (with_reducible exact cavilref15_Span.mono _ _ _ _)
      | (with_reducible exact view_File_Chan.mono _ _ _)
      | (with_reducible exact view_File_Has.mono _ _ _ _)
      | (with_reducible exact view_File_Op.mono _ _ _)
      | (with_reducible exact view_File_Span.mono _ _ _)
      | (with_reducible exact view_New.mono _ _ _ _)
      | (with_reducible exact LeO.refl _)
      | (with_reducible exact LeO.none _)
      | (with_reducible refine LeO.ite ?_ ?_)
      | (with_reducible refine LeO.bind ?_ (fun _ => ?_))
      | exact ih0 _ _ _ _ _ _ _ _ _ _
      | exact ih1 _ _ _ _ _ _ _ _
      | exact cavillaw15_few.mono _ _ _ _
      | exact cavillaw15_works.mono _
      | exact cavilref15_Chan.mono _ _ _ _
      | exact cavilref15_Op.mono _ _ _ _
      | exact cavilref15_Own.mono _ _ _
      | exact cavilref15_Span.mono _ _ _ _
      | exact view_File_Chan.mono _ _ _
      | exact view_File_Has.mono _ _ _ _
      | exact view_File_Op.mono _ _ _
      | exact view_File_Span.mono _ _ _
      | exact view_New.mono _ _ _ _
      | exact LeO.none _
      | refine LeO.ite ?_ ?_
      | refine LeO.bind ?_ (fun _ => ?_)
def cavillaw15_ViewTells.T12 : Bool × List (List Nat × List Nat) := (true, [([], []), ([], []), ([0, 1], [0, 1]), ([], []), ([3], [3]), ([], []), ([5], [5]), ([], []), ([4, 6, 7, 2], [4, 6, 7]), ([2, 8], [2, 8]), ([9, 8], [9]), ([10], [10]), ([10], [10]), ([11, 12, 10, 10], [10, 11, 12]), ([10], [10]), ([14, 10], [10, 14]), ([10], [10]), ([16, 10], [10, 16]), ([10], [10]), ([15, 17, 18, 13, 10], [10, 15, 17, 18]), ([13, 19, 10], [10, 13, 19]), ([10, 20], [10, 20]), ([21, 19], [21]), ([22], [22]), ([22], [22]), ([23, 24, 22, 22], [22, 23, 24]), ([22], [22]), ([26, 22], [22, 26]), ([22], [22]), ([28, 22], [22, 28]), ([22], [22]), ([27, 29, 30, 25, 22], [22, 27, 29, 30]), ([25, 31, 22], [22, 25, 31]), ([22, 32], [22, 32]), ([33, 31], [33]), ([34], [34]), ([34], [34]), ([34], [34]), ([35, 36, 37, 34, 34], [34, 35, 36, 37]), ([34], [34]), ([38, 39, 34], [34, 38, 39]), ([34, 40], [34, 40]), ([41, 38], [41]), ([42], [42]), ([42], [42]), ([43, 44, 42, 42], [42, 43, 44]), ([42], [42]), ([45, 46, 42], [42, 45, 46]), ([42, 47], [42, 47]), ([48, 45], [48]), ([49, 49], [49]), ([49, 50], [49, 50]), ([51, 50, 0, 1, 2, 3, 4, 5, 6, 7, 8, 9, 10, 11, 12, 13, 14, 15, 16, 17, 18, 19, 20, 21, 22, 23, 24, 25, 26, 27, 28, 29, 30, 31, 32, 33, 34, 35, 36, 37, 38, 39, 40, 41, 42, 43, 44, 45, 46, 47, 48, 49, 50, 51], [51])])
def cavillaw15_ViewTells.B12 : List Nat := [0, 0, 3, 0, 8, 0, 32, 0, 255, 511, 1023, 2047, 2047, 8191, 2047, 18431, 2047, 67583, 2047, 524287, 1048575, 2097151, 4194303, 8388607, 8388607, 33554431, 8388607, 75497471, 8388607, 276824063, 8388607, 2147483647, 4294967295, 8589934591, 17179869183, 34359738367, 34359738367, 34359738367, 274877906943, 34359738367, 1099511627775, 2199023255551, 4398046511103, 8796093022207, 8796093022207, 35184372088831, 8796093022207, 140737488355327, 281474976710655, 562949953421311, 1125899906842623, 2251799813685247, 4503599627370495]
theorem cavillaw15_ViewTells.tab12 : rtab .any (opsOf Try.f4 12) = cavillaw15_ViewTells.T12 := by kernel_rfl
theorem cavillaw15_ViewTells.bits12 : waitsOk cavillaw15_ViewTells.T12.2 cavillaw15_ViewTells.B12 = true := by kernel_rfl
set_option maxHeartbeats 8000000 in
set_option maxRecDepth 100000 in
theorem cavillaw15_ViewTells.calls (k : Nat) (A0_0 : Option Addr) (c0_0 : Nat) (l0_0 : List Int) (A0_1 : Option Addr) (c0_1 : Nat) (l0_1 : List (S38)) (A0_2 : Option Addr) (c0_2 : Nat) (l0_2 : List (S44)) (a1 : Int) (a2 : Int) (r : Bool) (w : World) (hr0_0 : Kd.C (Kd.int .u8) w A0_0 l0_0.length l0_0) (hc0_0 : l0_0.length ≤ c0_0) (hr0_1 : Kd.C k38 w A0_1 l0_1.length l0_1) (hc0_1 : l0_1.length ≤ c0_1) (hr0_2 : Kd.C k44 w A0_2 l0_2.length l0_2) (hc0_2 : l0_2.length ≤ c0_2) (h : cavillaw15_ViewTells.f k l0_0 l0_1 l0_2 a1 a2 = some r) (hrt : r = true) :
    Calls Try.prog 4 #[.agg #[.slice A0_0 l0_0.length c0_0, .slice A0_1 l0_1.length c0_1, .slice A0_2 l0_2.length c0_2], .int .i64 a1, .int .i64 a2] w fun e w' => e = .returned (.bool r) ∧ Below w.heap.size w w' := by
  have HRT := Aside0.mk hrt
  clear hrt
  have hu28 := Try.underlying28
  have hu26 := Try.underlying26
  have hu40 := Try.underlying40
  have hu32 := Try.underlying32
  have hu36 := Try.underlying36
  have HR0_0 := Aside0.mk hr0_0
  have HC0_0 := Aside0.mk hc0_0
  clear hr0_0 hc0_0
  have HR0_1 := Aside0.mk hr0_1
  have HC0_1 := Aside0.mk hc0_1
  clear hr0_1 hc0_1
  have HR0_2 := Aside0.mk hr0_2
  have HC0_2 := Aside0.mk hc0_2
  clear hr0_2 hc0_2
  have HB := Aside0.mk (Below.refl w.heap.size w)
  have H : ((cavillaw15_few.f k l0_0 l0_1 l0_2).bind fun bt382 => ((view_New.f k bt382.1 bt382.2.1 bt382.2.2).bind fun bt391 => ((cavilref15_Own.f k bt382.2.2 a1).bind fun t395 => (cavillaw15_ViewTells.l0 k a1 a2 bt391.1 false t395 (t395.length : Int) 0 bt382.1 bt382.2.1 bt382.2.2)))) = some r := h
  clear h
  replace H := Option.bind_eq_some_iff.mp H
  obtain ⟨⟨t382, t385, t388⟩, A40, H⟩ := H
  replace H : ((view_New.f k t382 t385 t388).bind fun bt391 => ((cavilref15_Own.f k t388 a1).bind fun t395 => (cavillaw15_ViewTells.l0 k a1 a2 bt391.1 false t395 (t395.length : Int) 0 t382 t385 t388))) = some r := H
  have A4 := Aside0.mk A40
  clear A40
  replace H := Option.bind_eq_some_iff.mp H
  obtain ⟨⟨t391, t394⟩, A50, H⟩ := H
  replace H : ((cavilref15_Own.f k t388 a1).bind fun t395 => (cavillaw15_ViewTells.l0 k a1 a2 t391 false t395 (t395.length : Int) 0 t382 t385 t388)) = some r := H
  have A5 := Aside0.mk A50
  clear A50
  replace H := Option.bind_eq_some_iff.mp H
  obtain ⟨t395, A60, H⟩ := H
  replace H : (cavillaw15_ViewTells.l0 k a1 a2 t391 false t395 (t395.length : Int) 0 t382 t385 t388) = some r := H
  have A6 := Aside0.mk A60
  clear A60
  have H' := Aside0.mk H
  clear H
  go_enter Try.func4, Try.ntmps4
  go_wp2_with (first | ((with_reducible refine gate_dst (N := 3) rfl ?_); refine box_event ?hg (N := 3) ?hd (cs := #[.slice A0_0 l0_0.length c0_0, .slice A0_1 l0_1.length c0_1, .slice A0_2 l0_2.length c0_2]) (t := 28) ?hr ?_; (case hd => rfl); (case hg => rfl); (case hr => first | (go_simp; done) | (go_simp; rfl)); intro gb381 hg w7 hbox hb; have n0_ := Aside0.mk (below_step (by repeat (first | (with_reducible first | exact HB.out | apply below_alloc | apply pw_below_drewN | apply below_drew1) | exact HB.out)) hb); have n1_ := Aside0.mk (hbox); have n2_ := Aside0.mk ((by rw [hg]; exact (below_size (by repeat (first | (with_reducible first | exact HB.out | apply below_alloc | apply pw_below_drewN | apply below_drew1) | exact HB.out))) : w.heap.size ≤ gb381)); have n3_ := n2_; clear HB; have HB := n0_; have BK381 := n1_; have GW381 := n2_; have GE381 := n3_; clear n0_ n1_ n2_ n3_; clear hb hbox hg; have hcz8_0 : w7.cell? ⟨gb381, 0, none⟩ = some (.slice A0_0 l0_0.length c0_0) := (blk_cell BK381.out 0).trans rfl; have hcz8_1 : w7.cell? ⟨gb381, 1, none⟩ = some (.slice A0_1 l0_1.length c0_1) := (blk_cell BK381.out 1).trans rfl; have hcz8_2 : w7.cell? ⟨gb381, 2, none⟩ = some (.slice A0_2 l0_2.length c0_2) := (blk_cell BK381.out 2).trans rfl; have hfz8_0 := blk_frozen BK381.out 0; have hfz8_1 := blk_frozen BK381.out 1; have hfz8_2 := blk_frozen BK381.out 2) | ((with_reducible refine gate_callee (f := 8) rfl ?_); refine goesL_ (some 14) rfl rfl Try.func8 (by kernel_rfl) rfl #[.agg #[.slice A0_0 l0_0.length c0_0, .slice A0_1 l0_1.length c0_1, .slice A0_2 l0_2.length c0_2]] rfl (by (try simp only [List.map_toArray, List.map_cons, List.map_nil]); first | done | rfl | (simp only [List.length_drop, List.length_take]; rfl)) ?_; (with_reducible refine (cavillaw15_few.calls k (fun k_ => k_ < w.heap.size) _ _ l0_0 (fun k_ => k_ < w.heap.size) _ _ l0_1 (fun k_ => k_ < w.heap.size) _ _ l0_2 t382 t385 t388 _ ?side1 ?side2 ?side3 A4.out).mono ?_); (case side1 => exact Kd.V_mk HC0_0.out (Kd.F_below (Kd.C_F (Kd.heap_int .u8) HR0_0.out) (by repeat (first | (with_reducible first | exact HB.out | apply below_alloc | apply pw_below_drewN | apply below_drew1 | refine below_set ?_ GE381.out) | exact HB.out)))); (case side2 => exact Kd.V_mk HC0_1.out (Kd.F_below (Kd.C_F k38_heap HR0_1.out) (by repeat (first | (with_reducible first | exact HB.out | apply below_alloc | apply pw_below_drewN | apply below_drew1 | refine below_set ?_ GE381.out) | exact HB.out)))); (case side3 => exact Kd.V_mk HC0_2.out (Kd.F_below (Kd.C_F k44_heap HR0_2.out) (by repeat (first | (with_reducible first | exact HB.out | apply below_alloc | apply pw_below_drewN | apply below_drew1 | refine below_set ?_ GE381.out) | exact HB.out)))); rintro e w9 ⟨v383, v386, v389, rfl, ho0, ho1, ho2, hb⟩; refine ⟨_, rfl, ?_⟩; have n0_ := Aside0.mk (Kd.V_lower (Kd.V_mono (ok' := fun k_ => k_ ≠ gb381) ho0 (fun k_ hk_ => Or.elim hk_ (fun hs_ => Or.elim hs_ (fun hs_ => fun e_ => Nat.not_le.2 hs_ (by rw [e_]; exact GW381.out)) (fun hs_ => Or.elim hs_ (fun hs_ => fun e_ => Nat.not_le.2 hs_ (by rw [e_]; exact GW381.out)) (fun hs_ => fun e_ => Nat.not_le.2 hs_ (by rw [e_]; exact GW381.out)))) (fun hn_ => (Kd.freshB (g := gb381) (o := .cells #[.slice A0_0 l0_0.length c0_0, .slice A0_1 l0_1.length c0_1, .slice A0_2 l0_2.length c0_2] 28 (0, 0)) (by (with_reducible repeat (first | refine blk_drewN ?_ _ | refine blk_drew ?_ | refine blk_alloc ?_ _)); exact BK381.out) k_ hn_)))) (below_size (by repeat (first | (with_reducible first | exact HB.out | apply below_alloc | apply pw_below_drewN | apply below_drew1 | refine below_set ?_ GE381.out) | exact HB.out)))); have n1_ := Aside0.mk (Kd.V_lower (Kd.V_mono (ok' := fun k_ => k_ ≠ gb381) ho1 (fun k_ hk_ => Or.elim hk_ (fun hs_ => Or.elim hs_ (fun hs_ => fun e_ => Nat.not_le.2 hs_ (by rw [e_]; exact GW381.out)) (fun hs_ => Or.elim hs_ (fun hs_ => fun e_ => Nat.not_le.2 hs_ (by rw [e_]; exact GW381.out)) (fun hs_ => fun e_ => Nat.not_le.2 hs_ (by rw [e_]; exact GW381.out)))) (fun hn_ => (Kd.freshB (g := gb381) (o := .cells #[.slice A0_0 l0_0.length c0_0, .slice A0_1 l0_1.length c0_1, .slice A0_2 l0_2.length c0_2] 28 (0, 0)) (by (with_reducible repeat (first | refine blk_drewN ?_ _ | refine blk_drew ?_ | refine blk_alloc ?_ _)); exact BK381.out) k_ hn_)))) (below_size (by repeat (first | (with_reducible first | exact HB.out | apply below_alloc | apply pw_below_drewN | apply below_drew1 | refine below_set ?_ GE381.out) | exact HB.out)))); have n2_ := Aside0.mk (Kd.V_lower (Kd.V_mono (ok' := fun k_ => k_ ≠ gb381) ho2 (fun k_ hk_ => Or.elim hk_ (fun hs_ => Or.elim hs_ (fun hs_ => fun e_ => Nat.not_le.2 hs_ (by rw [e_]; exact GW381.out)) (fun hs_ => Or.elim hs_ (fun hs_ => fun e_ => Nat.not_le.2 hs_ (by rw [e_]; exact GW381.out)) (fun hs_ => fun e_ => Nat.not_le.2 hs_ (by rw [e_]; exact GW381.out)))) (fun hn_ => (Kd.freshB (g := gb381) (o := .cells #[.slice A0_0 l0_0.length c0_0, .slice A0_1 l0_1.length c0_1, .slice A0_2 l0_2.length c0_2] 28 (0, 0)) (by (with_reducible repeat (first | refine blk_drewN ?_ _ | refine blk_drew ?_ | refine blk_alloc ?_ _)); exact BK381.out) k_ hn_)))) (below_size (by repeat (first | (with_reducible first | exact HB.out | apply below_alloc | apply pw_below_drewN | apply below_drew1 | refine below_set ?_ GE381.out) | exact HB.out)))); have n3_ := Aside0.mk (blk_below (g := gb381) (o := .cells #[.slice A0_0 l0_0.length c0_0, .slice A0_1 l0_1.length c0_1, .slice A0_2 l0_2.length c0_2] 28 (0, 0)) (by (with_reducible repeat (first | refine blk_drewN ?_ _ | refine blk_drew ?_ | refine blk_alloc ?_ _)); exact BK381.out) hb); have n4_ := Aside0.mk (below_step (by repeat (first | (with_reducible first | exact HB.out | apply below_alloc | apply pw_below_drewN | apply below_drew1 | refine below_set ?_ GE381.out) | exact HB.out)) hb); clear BK381; clear HB; have HO384 := n0_; have HO387 := n1_; have HO390 := n2_; have BK381 := n3_; have HB := n4_; clear n0_ n1_ n2_ n3_ n4_; (try clear hb); (try clear hb2); (try clear hk); (try clear hi); (try clear ho0); (try clear ho1); (try clear ho2); obtain ⟨Ao10, co10, eo10⟩ := Kd.V_slice HO384.out; subst eo10; have hcz11_0 : w9.cell? ⟨gb381, 0, none⟩ = some (.slice A0_0 l0_0.length c0_0) := (blk_cell BK381.out 0).trans rfl; have hcz11_1 : w9.cell? ⟨gb381, 1, none⟩ = some (.slice A0_1 l0_1.length c0_1) := (blk_cell BK381.out 1).trans rfl; have hcz11_2 : w9.cell? ⟨gb381, 2, none⟩ = some (.slice A0_2 l0_2.length c0_2) := (blk_cell BK381.out 2).trans rfl; have hfz11_0 := blk_frozen BK381.out 0; have hfz11_1 := blk_frozen BK381.out 1; have hfz11_2 := blk_frozen BK381.out 2; obtain ⟨Ao12, co12, eo12⟩ := Kd.V_slice HO387.out; subst eo12; obtain ⟨Ao13, co13, eo13⟩ := Kd.V_slice HO390.out; subst eo13) | ((with_reducible refine gate_store (t := 28) (p := 3) rfl ?_); refine store_event (t := 28) (p := 3) (v := ?vo_w14) (w1 := (((w9.setCell ⟨gb381, 0, none⟩ (.slice Ao10 t382.length co10)).setCell ⟨gb381, 1, none⟩ (.slice Ao12 t385.length co12)).setCell ⟨gb381, 2, none⟩ (.slice Ao13 t388.length co13))) ?hg ?ho ?hn ?hr ?_; (case ho => rfl); (case hg => rfl); (case hn => rfl); (case hr => first | (go_simp; done) | (go_simp; rfl)); intro w14 hw; have n0_ : Aside0 (Kd.V (Kd.int .u8) 5 w14 w.heap.size (fun k_ => k_ ≠ gb381) (.slice Ao10 t382.length co10) t382) := ⟨(by rw [hw]; exact (by (with_reducible repeat (first | apply Kd.V_alloc | apply Kd.V_drewN | apply Kd.V_drew)); exact Kd.V_mono (Kd.V_far (p := ⟨gb381, 2, none⟩) (Kd.V_far (p := ⟨gb381, 1, none⟩) (Kd.V_far (p := ⟨gb381, 0, none⟩) (Kd.V_mono HO384.out (fun k_ hk => (⟨hk, hk⟩ : _ ∧ k_ ≠ gb381))) (fun _ hk => hk.2) (.slice Ao10 t382.length co10)) (fun _ hk => hk.2) (.slice Ao12 t385.length co12)) (fun _ hk => hk.2) (.slice Ao13 t388.length co13)) (fun _ hk => hk.1)))⟩; have n1_ : Aside0 (Kd.V k38 38 w14 w.heap.size (fun k_ => k_ ≠ gb381) (.slice Ao12 t385.length co12) t385) := ⟨(by rw [hw]; exact (by (with_reducible repeat (first | apply Kd.V_alloc | apply Kd.V_drewN | apply Kd.V_drew)); exact Kd.V_mono (Kd.V_far (p := ⟨gb381, 2, none⟩) (Kd.V_far (p := ⟨gb381, 1, none⟩) (Kd.V_far (p := ⟨gb381, 0, none⟩) (Kd.V_mono HO387.out (fun k_ hk => (⟨hk, hk⟩ : _ ∧ k_ ≠ gb381))) (fun _ hk => hk.2) (.slice Ao10 t382.length co10)) (fun _ hk => hk.2) (.slice Ao12 t385.length co12)) (fun _ hk => hk.2) (.slice Ao13 t388.length co13)) (fun _ hk => hk.1)))⟩; have n2_ : Aside0 (Kd.V k44 44 w14 w.heap.size (fun k_ => k_ ≠ gb381) (.slice Ao13 t388.length co13) t388) := ⟨(by rw [hw]; exact (by (with_reducible repeat (first | apply Kd.V_alloc | apply Kd.V_drewN | apply Kd.V_drew)); exact Kd.V_mono (Kd.V_far (p := ⟨gb381, 2, none⟩) (Kd.V_far (p := ⟨gb381, 1, none⟩) (Kd.V_far (p := ⟨gb381, 0, none⟩) (Kd.V_mono HO390.out (fun k_ hk => (⟨hk, hk⟩ : _ ∧ k_ ≠ gb381))) (fun _ hk => hk.2) (.slice Ao10 t382.length co10)) (fun _ hk => hk.2) (.slice Ao12 t385.length co12)) (fun _ hk => hk.2) (.slice Ao13 t388.length co13)) (fun _ hk => hk.1)))⟩; have n3_ : Aside0 (w14.heap[gb381]? = some (.cells #[.slice Ao10 t382.length co10, .slice Ao12 t385.length co12, .slice Ao13 t388.length co13] 28 (0, 0))) := ⟨(by rw [hw]; exact (by (with_reducible repeat (first | refine blk_drewN ?_ _ | refine blk_drew ?_ | refine blk_alloc ?_ _)); refine blk_put (cs := #[.slice Ao10 t382.length co10, .slice Ao12 t385.length co12, .slice A0_2 l0_2.length c0_2]) ?_ 2 _ rfl; (with_reducible repeat (first | refine blk_drewN ?_ _ | refine blk_drew ?_ | refine blk_alloc ?_ _)); refine blk_put (cs := #[.slice Ao10 t382.length co10, .slice A0_1 l0_1.length c0_1, .slice A0_2 l0_2.length c0_2]) ?_ 1 _ rfl; (with_reducible repeat (first | refine blk_drewN ?_ _ | refine blk_drew ?_ | refine blk_alloc ?_ _)); refine blk_put (cs := #[.slice A0_0 l0_0.length c0_0, .slice A0_1 l0_1.length c0_1, .slice A0_2 l0_2.length c0_2]) ?_ 0 _ rfl; (with_reducible repeat (first | refine blk_drewN ?_ _ | refine blk_drew ?_ | refine blk_alloc ?_ _)); exact BK381.out))⟩; have n4_ : Aside0 (Below w.heap.size w w14) := ⟨(by rw [hw]; exact (by repeat (first | (with_reducible first | exact HB.out | apply below_alloc | apply pw_below_drewN | apply below_drew1 | refine below_set ?_ GE381.out) | exact HB.out)))⟩; clear hw; clear HO384; clear HO387; clear HO390; clear BK381; clear HB; have HO384 := n0_; have HO387 := n1_; have HO390 := n2_; have BK381 := n3_; have HB := n4_; clear n0_ n1_ n2_ n3_ n4_; have hcz15_0 : w14.cell? ⟨gb381, 0, none⟩ = some (.slice Ao10 t382.length co10) := (blk_cell BK381.out 0).trans rfl; have hcz15_1 : w14.cell? ⟨gb381, 1, none⟩ = some (.slice Ao12 t385.length co12) := (blk_cell BK381.out 1).trans rfl; have hcz15_2 : w14.cell? ⟨gb381, 2, none⟩ = some (.slice Ao13 t388.length co13) := (blk_cell BK381.out 2).trans rfl; have hfz15_0 := blk_frozen BK381.out 0; have hfz15_1 := blk_frozen BK381.out 1; have hfz15_2 := blk_frozen BK381.out 2) | ((with_reducible refine gate_callee (f := 9) rfl ?_); refine goesL_ (some 22) rfl rfl Try.func9 (by kernel_rfl) rfl #[.slice Ao10 t382.length co10, .slice Ao12 t385.length co12, .agg #[.slice Ao13 t388.length co13]] rfl (by (try simp only [List.map_toArray, List.map_cons, List.map_nil]); first | done | rfl | (simp only [List.length_drop, List.length_take]; rfl)) ?_; (with_reducible refine (view_New.calls k (fun k_ => k_ ≠ gb381) _ _ t382 (fun k_ => k_ ≠ gb381) _ _ t385 (fun k_ => k_ ≠ gb381) _ _ t388 t391 t394 _ ?side1 ?side2 ?side3 A5.out).mono ?_); (case side1 => exact HO384.out); (case side2 => exact HO387.out); (case side3 => exact HO390.out); rintro e w16 ⟨v392, rfl, ho0, hb⟩; refine ⟨_, rfl, ?_⟩; have n0_ := Aside0.mk (Kd.V_below (by (with_reducible repeat (first | apply Kd.V_alloc | apply Kd.V_drewN | apply Kd.V_drew)); exact HO384.out) hb); have n1_ := Aside0.mk (Kd.V_below (by (with_reducible repeat (first | apply Kd.V_alloc | apply Kd.V_drewN | apply Kd.V_drew)); exact HO387.out) hb); have n2_ := Aside0.mk (Kd.V_below (by (with_reducible repeat (first | apply Kd.V_alloc | apply Kd.V_drewN | apply Kd.V_drew)); exact HO390.out) hb); have n3_ := Aside0.mk (Kd.V_lower (Kd.V_mono (ok' := fun k_ => k_ ≠ gb381) ho0 (fun k_ hk_ => Or.elim hk_ (fun hs_ => Or.elim hs_ (fun hs_ => hs_) (fun hs_ => Or.elim hs_ (fun hs_ => hs_) (fun hs_ => hs_))) (fun hn_ => (Kd.freshB (g := gb381) (o := .cells #[.slice Ao10 t382.length co10, .slice Ao12 t385.length co12, .slice Ao13 t388.length co13] 28 (0, 0)) (by (with_reducible repeat (first | refine blk_drewN ?_ _ | refine blk_drew ?_ | refine blk_alloc ?_ _)); exact BK381.out) k_ hn_)))) (below_size (by repeat (first | (with_reducible first | exact HB.out | apply below_alloc | apply pw_below_drewN | apply below_drew1 | refine below_set ?_ GE381.out) | exact HB.out)))); have n4_ := Aside0.mk (blk_below (g := gb381) (o := .cells #[.slice Ao10 t382.length co10, .slice Ao12 t385.length co12, .slice Ao13 t388.length co13] 28 (0, 0)) (by (with_reducible repeat (first | refine blk_drewN ?_ _ | refine blk_drew ?_ | refine blk_alloc ?_ _)); exact BK381.out) hb); have n5_ := Aside0.mk (below_step (by repeat (first | (with_reducible first | exact HB.out | apply below_alloc | apply pw_below_drewN | apply below_drew1 | refine below_set ?_ GE381.out) | exact HB.out)) hb); clear HO384; clear HO387; clear HO390; clear BK381; clear HB; have HO384 := n0_; have HO387 := n1_; have HO390 := n2_; have HO393 := n3_; have BK381 := n4_; have HB := n5_; clear n0_ n1_ n2_ n3_ n4_ n5_; (try clear hb); (try clear hb2); (try clear hk); (try clear hi); (try clear ho0); (try simp only [errW_none, errW_some, erT_no, erV_no, erT_at, erV_at]); obtain ⟨ado17, co17, eo17⟩ := view_New.open HO393.out A5.out; subst eo17; (try simp only [view_New.ptr]); have hcz18_0 : w16.cell? ⟨gb381, 0, none⟩ = some (.slice Ao10 t382.length co10) := (blk_cell BK381.out 0).trans rfl; have hcz18_1 : w16.cell? ⟨gb381, 1, none⟩ = some (.slice Ao12 t385.length co12) := (blk_cell BK381.out 1).trans rfl; have hcz18_2 : w16.cell? ⟨gb381, 2, none⟩ = some (.slice Ao13 t388.length co13) := (blk_cell BK381.out 2).trans rfl; have hfz18_0 := blk_frozen BK381.out 0; have hfz18_1 := blk_frozen BK381.out 1; have hfz18_2 := blk_frozen BK381.out 2) | ((with_reducible refine gate_callee (f := 17) rfl ?_); refine goesL_ (some 71) rfl rfl Try.func17 (by kernel_rfl) rfl #[.agg #[.slice Ao13 t388.length co13], .int .i64 a1] rfl (by (try simp only [List.map_toArray, List.map_cons, List.map_nil]); first | done | rfl | (simp only [List.length_drop, List.length_take]; rfl)) ?_; (with_reducible refine (cavilref15_Own.calls k _ _ t388 a1 t395 _ ?side1 ?side2 A6.out).mono ?_); (case side1 => repeat (first | exact (Kd.V_reads' HO390.out).2.2 | (with_reducible refine Kd.C_alloc ?_ _) | (with_reducible refine Kd.C_drewN ?_ _) | (with_reducible refine Kd.C_drew ?_))); (case side2 => exact (Kd.V_reads' HO390.out).2.1); rintro e w19 ⟨v396, rfl, ho0, hb⟩; refine ⟨_, rfl, ?_⟩; have n0_ := Aside0.mk (Kd.V_elder' (by (with_reducible repeat (first | apply Kd.V_alloc | apply Kd.V_drewN | apply Kd.V_drew)); exact HO384.out) (Kd.R_base ho0) hb); have n1_ := Aside0.mk (Kd.V_elder' (by (with_reducible repeat (first | apply Kd.V_alloc | apply Kd.V_drewN | apply Kd.V_drew)); exact HO387.out) (Kd.R_base ho0) hb); have n2_ := Aside0.mk (Kd.V_elder' (by (with_reducible repeat (first | apply Kd.V_alloc | apply Kd.V_drewN | apply Kd.V_drew)); exact HO390.out) (Kd.R_base ho0) hb); have n3_ := Aside0.mk (Kd.V_elder' (by (with_reducible repeat (first | apply Kd.V_alloc | apply Kd.V_drewN | apply Kd.V_drew)); exact HO393.out) (Kd.R_base ho0) hb); have n4_ := Aside0.mk (Kd.R_lower ho0 (below_size (by repeat (first | (with_reducible first | exact HB.out | apply below_alloc | apply pw_below_drewN | apply below_drew1 | refine below_set ?_ GE381.out) | exact HB.out)))); have n5_ := Aside0.mk (blk_below (g := gb381) (o := .cells #[.slice Ao10 t382.length co10, .slice Ao12 t385.length co12, .slice Ao13 t388.length co13] 28 (0, 0)) (by (with_reducible repeat (first | refine blk_drewN ?_ _ | refine blk_drew ?_ | refine blk_alloc ?_ _)); exact BK381.out) hb); have n6_ := Aside0.mk (below_step (by repeat (first | (with_reducible first | exact HB.out | apply below_alloc | apply pw_below_drewN | apply below_drew1 | refine below_set ?_ GE381.out) | exact HB.out)) hb); clear HO384; clear HO387; clear HO390; clear HO393; clear BK381; clear HB; have HO384 := n0_; have HO387 := n1_; have HO390 := n2_; have HO393 := n3_; have HO397 := n4_; have BK381 := n5_; have HB := n6_; clear n0_ n1_ n2_ n3_ n4_ n5_ n6_; (try clear hb); (try clear hb2); (try clear hk); (try clear hi); (try clear ho0); obtain ⟨Ao20, co20, eo20⟩ := Kd.R_slice HO397.out; subst eo20))
  go_loopg [9, 73] k (fun kq v9 v73 w' => ∃ (x9_1 : Bool) (x73_1 : Int), v9 = .bool x9_1 ∧ v73 = .int .i64 x73_1 ∧ Aside0 (cavillaw15_ViewTells.l0 kq a1 a2 t391 x9_1 t395 (t395.length : Int) x73_1 t382 t385 t388 = some r) ∧ Aside0 (kq ≤ k) ∧ Aside0 (Kd.V k72 72 w' w.heap.size (fun k_ => some k_ ≠ ((.slice Ao20 t395.length co20) : Value).ownBlock ∧ k_ ≠ gb381) (.slice (some ado17) t391.length co17) t391) ∧ Aside0 (Kd.R (Kd.int .i64) 3 w' w.heap.size (fun _ => True) (.slice Ao20 t395.length co20) t395) ∧ Aside0 (Kd.V (Kd.int .u8) 5 w' w.heap.size (fun k_ => some k_ ≠ ((.slice Ao20 t395.length co20) : Value).ownBlock ∧ k_ ≠ gb381) (.slice Ao10 t382.length co10) t382) ∧ Aside0 (Kd.V k38 38 w' w.heap.size (fun k_ => some k_ ≠ ((.slice Ao20 t395.length co20) : Value).ownBlock ∧ k_ ≠ gb381) (.slice Ao12 t385.length co12) t385) ∧ Aside0 (Kd.V k44 44 w' w.heap.size (fun k_ => some k_ ≠ ((.slice Ao20 t395.length co20) : Value).ownBlock ∧ k_ ≠ gb381) (.slice Ao13 t388.length co13) t388) ∧ Aside0 (w'.heap[gb381]? = some (.cells #[(.slice Ao10 t382.length co10), (.slice Ao12 t385.length co12), (.slice Ao13 t388.length co13)] 28 (0, 0))) ∧ Aside0 (Below w.heap.size w w'))
  case atStart => exact ⟨(false), (0), (by first | rfl | (simp; done) | (simp [*]; done)), (by first | rfl | (simp; done) | (simp [*]; done)), H', ⟨Nat.le_refl _⟩, ⟨by (with_reducible repeat (first | apply Kd.V_alloc | apply Kd.V_drewN | apply Kd.V_drew)); exact Kd.V_mono HO393.out (fun _ hk => ⟨hk.2, hk.1⟩)⟩, ⟨by (with_reducible repeat (first | apply Kd.R_alloc | apply Kd.R_drewN | apply Kd.R_drew)); exact HO397.out⟩, ⟨by (with_reducible repeat (first | apply Kd.V_alloc | apply Kd.V_drewN | apply Kd.V_drew)); exact Kd.V_mono HO384.out (fun _ hk => ⟨hk.2, hk.1⟩)⟩, ⟨by (with_reducible repeat (first | apply Kd.V_alloc | apply Kd.V_drewN | apply Kd.V_drew)); exact Kd.V_mono HO387.out (fun _ hk => ⟨hk.2, hk.1⟩)⟩, ⟨by (with_reducible repeat (first | apply Kd.V_alloc | apply Kd.V_drewN | apply Kd.V_drew)); exact Kd.V_mono HO390.out (fun _ hk => ⟨hk.2, hk.1⟩)⟩, ⟨by (with_reducible repeat (first | refine blk_drewN ?_ _ | refine blk_drew ?_ | refine blk_alloc ?_ _)); exact BK381.out⟩, ⟨by repeat (first | (with_reducible first | exact HB.out | apply below_alloc | apply pw_below_drewN | apply below_drew1 | refine below_set ?_ GE381.out) | exact HB.out)⟩⟩
  case round =>
    clear H'
    try clear c1
    try clear p2
    try clear c4
    try clear c8
    try clear c9
    try clear c17
    try clear hcz11_0
    try clear hcz11_1
    try clear hcz11_2
    try clear hcz15_0
    try clear hcz15_1
    try clear hcz15_2
    try clear hcz18_0
    try clear hcz18_1
    try clear hcz18_2
    try clear hcz8_0
    try clear hcz8_1
    try clear hcz8_2
    try clear hfz11_0
    try clear hfz11_1
    try clear hfz11_2
    try clear hfz15_0
    try clear hfz15_1
    try clear hfz15_2
    try clear hfz18_0
    try clear hfz18_1
    try clear hfz18_2
    try clear hfz8_0
    try clear hfz8_1
    try clear hfz8_2
    obtain ⟨x9_1, x73_1, rfl, rfl, HA, HK1, HO_7, HO_71, HO_382000, HO_382001, HO_382002, BK381, HB⟩ := hrel
    cases gk with
    | zero => exact absurd HA.out (by simp [cavillaw15_ViewTells.l0])
    | succ k1 =>
      have H := HA.out
      clear HA
      simp only [cavillaw15_ViewTells.l0] at H
      by_cases c21 : x73_1 < (t395.length : Int)
      · rw [if_pos c21] at H
        have c21b0 : decide (x73_1 < (t395.length : Int)) = true := decide_eq_true c21
        clear c21
        by_cases c22 : 0 ≤ x73_1
        · rw [if_pos c22] at H
          have c22b0 : decide (0 ≤ x73_1) = true := decide_eq_true c22
          clear c22
          by_cases c23 : x73_1 < (t395.length : Int)
          · rw [if_pos c23] at H
            have c23b0 : decide (x73_1 < (t395.length : Int)) = true := decide_eq_true c23
            clear c23
            by_cases c24 : x9_1 = true
            · subst c24
              have H1 : (cavillaw15_ViewTells.l0 k1 a1 a2 t391 true t395 (t395.length : Int) (wrap64 (x73_1 + 1)) t382 t385 t388) = some r := by rw [if_pos rfl] at H; exact H
              clear H
              have H := H1
              clear H1
              have H' := Aside0.mk H
              clear H
              have p398 : 0 ≤ (x73_1 : Int) := of_decide_eq_true (by first | (with_reducible assumption) | assumption)
              have q398 : x73_1 < (t395.length : Int) := of_decide_eq_true (by first | (with_reducible assumption) | assumption)
              obtain ⟨ad398, e398, hx398_0⟩ := Kd.at_int (Kd.R_reads' HO_71.out).2.2 x73_1 p398 q398
              cases e398
              replace p398 := eq_true p398
              replace q398 := eq_true q398
              go_wp2
              go_roundg k1
              case measure => have := HK1.out; omega
              case rel => exact ⟨(true), (wrap64 (x73_1 + 1)), (by first | rfl | (simp; done) | (simp [*]; done)), (by first | rfl | (simp; done) | (simp [*]; done)), H', ⟨by have := HK1.out; omega⟩, ⟨by (with_reducible repeat (first | apply Kd.V_alloc | apply Kd.V_drewN | apply Kd.V_drew)); exact HO_7.out⟩, ⟨by (with_reducible repeat (first | apply Kd.R_alloc | apply Kd.R_drewN | apply Kd.R_drew)); exact HO_71.out⟩, ⟨by (with_reducible repeat (first | apply Kd.V_alloc | apply Kd.V_drewN | apply Kd.V_drew)); exact HO_382000.out⟩, ⟨by (with_reducible repeat (first | apply Kd.V_alloc | apply Kd.V_drewN | apply Kd.V_drew)); exact HO_382001.out⟩, ⟨by (with_reducible repeat (first | apply Kd.V_alloc | apply Kd.V_drewN | apply Kd.V_drew)); exact HO_382002.out⟩, ⟨by (with_reducible repeat (first | refine blk_drewN ?_ _ | refine blk_drew ?_ | refine blk_alloc ?_ _)); exact BK381.out⟩, ⟨by repeat (first | (with_reducible first | exact HB.out | apply below_alloc | apply pw_below_drewN | apply below_drew1 | refine below_set ?_ GE381.out) | exact HB.out)⟩⟩
            · replace c24 := Bool.eq_false_iff.mpr c24
              subst c24
              have H1 : (if 0 ≤ (rd t395 x73_1) then (if (rd t395 x73_1) < (t385.length : Int) then (cavillaw15_ViewTells.l0 k1 a1 a2 t391 (((rd_T38 t385 (rd t395 x73_1)).f0) == a2) t395 (t395.length : Int) (wrap64 (x73_1 + 1)) t382 t385 t388) else (none)) else (none)) = some r := by rw [if_neg (show ¬ (false = true) by decide)] at H; exact H
              clear H
              have H := H1
              clear H1
              by_cases c25 : 0 ≤ (rd t395 x73_1)
              · rw [if_pos c25] at H
                have c25b0 : decide (0 ≤ (rd t395 x73_1)) = true := decide_eq_true c25
                clear c25
                by_cases c26 : (rd t395 x73_1) < (t385.length : Int)
                · rw [if_pos c26] at H
                  have c26b0 : decide ((rd t395 x73_1) < (t385.length : Int)) = true := decide_eq_true c26
                  clear c26
                  have H' := Aside0.mk H
                  clear H
                  have p398 : 0 ≤ (x73_1 : Int) := of_decide_eq_true (by first | (with_reducible assumption) | assumption)
                  have q398 : x73_1 < (t395.length : Int) := of_decide_eq_true (by first | (with_reducible assumption) | assumption)
                  obtain ⟨ad398, e398, hx398_0⟩ := Kd.at_int (Kd.R_reads' HO_71.out).2.2 x73_1 p398 q398
                  cases e398
                  replace p398 := eq_true p398
                  replace q398 := eq_true q398
                  have hcz27_0 : wr.cell? ⟨gb381, 0, none⟩ = some (.slice Ao10 t382.length co10) := (blk_cell BK381.out 0).trans rfl
                  have hcz27_1 : wr.cell? ⟨gb381, 1, none⟩ = some (.slice Ao12 t385.length co12) := (blk_cell BK381.out 1).trans rfl
                  have hcz27_2 : wr.cell? ⟨gb381, 2, none⟩ = some (.slice Ao13 t388.length co13) := (blk_cell BK381.out 2).trans rfl
                  have hfz27_0 := blk_frozen BK381.out 0
                  have hfz27_1 := blk_frozen BK381.out 1
                  have hfz27_2 := blk_frozen BK381.out 2
                  have p399 : 0 ≤ ((rd t395 x73_1) : Int) := of_decide_eq_true (by first | (with_reducible assumption) | assumption)
                  have q399 : (rd t395 x73_1) < (t385.length : Int) := of_decide_eq_true (by first | (with_reducible assumption) | assumption)
                  obtain ⟨ad399, e399, hx399_0, hx399_1, hx399_2, hx399_3, hx399_4⟩ := at_T38 (Kd.V_reads' HO_382001.out).2.2 (rd t395 x73_1) p399 q399
                  cases e399
                  replace p399 := eq_true p399
                  replace q399 := eq_true q399
                  go_wp2
                  go_roundg k1
                  case measure => have := HK1.out; omega
                  case rel => exact ⟨((((rd_T38 t385 (rd t395 x73_1)).f0) == a2)), (wrap64 (x73_1 + 1)), (by first | rfl | (simp; done) | (simp [*]; done)), (by first | rfl | (simp; done) | (simp [*]; done)), H', ⟨by have := HK1.out; omega⟩, ⟨by (with_reducible repeat (first | apply Kd.V_alloc | apply Kd.V_drewN | apply Kd.V_drew)); exact HO_7.out⟩, ⟨by (with_reducible repeat (first | apply Kd.R_alloc | apply Kd.R_drewN | apply Kd.R_drew)); exact HO_71.out⟩, ⟨by (with_reducible repeat (first | apply Kd.V_alloc | apply Kd.V_drewN | apply Kd.V_drew)); exact HO_382000.out⟩, ⟨by (with_reducible repeat (first | apply Kd.V_alloc | apply Kd.V_drewN | apply Kd.V_drew)); exact HO_382001.out⟩, ⟨by (with_reducible repeat (first | apply Kd.V_alloc | apply Kd.V_drewN | apply Kd.V_drew)); exact HO_382002.out⟩, ⟨by (with_reducible repeat (first | refine blk_drewN ?_ _ | refine blk_drew ?_ | refine blk_alloc ?_ _)); exact BK381.out⟩, ⟨by repeat (first | (with_reducible first | exact HB.out | apply below_alloc | apply pw_below_drewN | apply below_drew1 | refine below_set ?_ GE381.out) | exact HB.out)⟩⟩
                · rw [if_neg c26] at H
                  exact absurd H (by simp)
              · rw [if_neg c25] at H
                exact absurd H (by simp)
          · rw [if_neg c23] at H
            exact absurd H (by simp)
        · rw [if_neg c22] at H
          exact absurd H (by simp)
      · rw [if_neg c21] at H
        have c21b0 : decide (x73_1 < (t395.length : Int)) = false := decide_eq_false c21
        clear c21
        have HC28 := Aside0.mk H
        clear H
        go_upto_region 11 with (fail)
        go_cut [12] (fun v12 wc => ∃ (kq : Nat) (x12_27 : Bool), v12 = .bool x12_27 ∧ Aside0 (cavillaw15_ViewTells.j1 kq a1 a2 t391 x9_1 x12_27 t382 t385 t388 = some r) ∧ Aside0 (kq ≤ k1) ∧ Aside0 (Kd.V k72 72 wc w.heap.size (fun k_ => k_ ≠ gb381) (.slice (some ado17) t391.length co17) t391) ∧ Aside0 (Kd.V (Kd.int .u8) 5 wc w.heap.size (fun k_ => k_ ≠ gb381) (.slice Ao10 t382.length co10) t382) ∧ Aside0 (Kd.V k38 38 wc w.heap.size (fun k_ => k_ ≠ gb381) (.slice Ao12 t385.length co12) t385) ∧ Aside0 (Kd.V k44 44 wc w.heap.size (fun k_ => k_ ≠ gb381) (.slice Ao13 t388.length co13) t388) ∧ Aside0 (wc.heap[gb381]? = some (.cells #[(.slice Ao10 t382.length co10), (.slice Ao12 t385.length co12), (.slice Ao13 t388.length co13)] 28 (0, 0))) ∧ Aside0 (Below w.heap.size w wc))
        case first =>
          have H := HC28.out
          clear HC28
          replace H := Option.bind_eq_some_iff.mp H
          obtain ⟨t400, A290, H⟩ := H
          replace H : (if t400 = true then (if 0 ≤ a1 then (if a1 < (t388.length : Int) then (cavillaw15_ViewTells.j1 k1 a1 a2 t391 x9_1 (((rd_T44 t388 a1).f0) == 0) t382 t385 t388) else (none)) else (none)) else (cavillaw15_ViewTells.j1 k1 a1 a2 t391 x9_1 true t382 t385 t388)) = some r := H
          have A29 := Aside0.mk A290
          clear A290
          by_cases c30 : t400 = true
          · subst c30
            have H1 : (if 0 ≤ a1 then (if a1 < (t388.length : Int) then (cavillaw15_ViewTells.j1 k1 a1 a2 t391 x9_1 (((rd_T44 t388 a1).f0) == 0) t382 t385 t388) else (none)) else (none)) = some r := by rw [if_pos rfl] at H; exact H
            clear H
            have H := H1
            clear H1
            by_cases c31 : 0 ≤ a1
            · rw [if_pos c31] at H
              have c31b0 : decide (0 ≤ a1) = true := decide_eq_true c31
              clear c31
              (first | rw [c31b0] | (simp only [i64_w, i32_w]; rw [c31b0]) | skip)
              by_cases c32 : a1 < (t388.length : Int)
              · rw [if_pos c32] at H
                have c32b0 : decide (a1 < (t388.length : Int)) = true := decide_eq_true c32
                clear c32
                have H' := Aside0.mk H
                clear H
                have hcz33_0 : wr.cell? ⟨gb381, 0, none⟩ = some (.slice Ao10 t382.length co10) := (blk_cell BK381.out 0).trans rfl
                have hcz33_1 : wr.cell? ⟨gb381, 1, none⟩ = some (.slice Ao12 t385.length co12) := (blk_cell BK381.out 1).trans rfl
                have hcz33_2 : wr.cell? ⟨gb381, 2, none⟩ = some (.slice Ao13 t388.length co13) := (blk_cell BK381.out 2).trans rfl
                have hfz33_0 := blk_frozen BK381.out 0
                have hfz33_1 := blk_frozen BK381.out 1
                have hfz33_2 := blk_frozen BK381.out 2
                go_wp2_with (first | ((with_reducible refine gate_callee (f := 18) rfl ?_); refine goesL_ (some 92) rfl rfl Try.func18 (by kernel_rfl) rfl #[.agg #[.slice Ao13 t388.length co13], .int .i64 a1] rfl (by (try simp only [List.map_toArray, List.map_cons, List.map_nil]); first | done | rfl | (simp only [List.length_drop, List.length_take]; rfl)) ?_; (with_reducible refine (cavilref15_In.calls _ _ t388 a1 true _ ?side1 ?side2 A29.out).mono ?_); (case side1 => repeat (first | exact (Kd.V_reads' HO_382002.out).2.2 | (with_reducible refine Kd.C_alloc ?_ _) | (with_reducible refine Kd.C_drewN ?_ _) | (with_reducible refine Kd.C_drew ?_))); (case side2 => exact (Kd.V_reads' HO_382002.out).2.1); rintro e w34 ⟨rfl, hb⟩; refine ⟨_, rfl, ?_⟩; have n0_ := Aside0.mk (Kd.V_below (by (with_reducible repeat (first | apply Kd.V_alloc | apply Kd.V_drewN | apply Kd.V_drew)); exact HO_7.out) hb); have n1_ := Aside0.mk (Kd.R_below (by (with_reducible repeat (first | apply Kd.R_alloc | apply Kd.R_drewN | apply Kd.R_drew)); exact HO_71.out) hb); have n2_ := Aside0.mk (Kd.V_below (by (with_reducible repeat (first | apply Kd.V_alloc | apply Kd.V_drewN | apply Kd.V_drew)); exact HO_382000.out) hb); have n3_ := Aside0.mk (Kd.V_below (by (with_reducible repeat (first | apply Kd.V_alloc | apply Kd.V_drewN | apply Kd.V_drew)); exact HO_382001.out) hb); have n4_ := Aside0.mk (Kd.V_below (by (with_reducible repeat (first | apply Kd.V_alloc | apply Kd.V_drewN | apply Kd.V_drew)); exact HO_382002.out) hb); have n5_ := Aside0.mk (blk_below (g := gb381) (o := .cells #[.slice Ao10 t382.length co10, .slice Ao12 t385.length co12, .slice Ao13 t388.length co13] 28 (0, 0)) (by (with_reducible repeat (first | refine blk_drewN ?_ _ | refine blk_drew ?_ | refine blk_alloc ?_ _)); exact BK381.out) hb); have n6_ := Aside0.mk (below_step (by repeat (first | (with_reducible first | exact HB.out | apply below_alloc | apply pw_below_drewN | apply below_drew1 | refine below_set ?_ GE381.out) | exact HB.out)) hb); clear HO_7; clear HO_71; clear HO_382000; clear HO_382001; clear HO_382002; clear BK381; clear HB; have HO_7 := n0_; have HO_71 := n1_; have HO_382000 := n2_; have HO_382001 := n3_; have HO_382002 := n4_; have BK381 := n5_; have HB := n6_; clear n0_ n1_ n2_ n3_ n4_ n5_ n6_; (try clear hb); (try clear hb2); (try clear hk); (try clear hi); have hcz35_0 : w34.cell? ⟨gb381, 0, none⟩ = some (.slice Ao10 t382.length co10) := (blk_cell BK381.out 0).trans rfl; have hcz35_1 : w34.cell? ⟨gb381, 1, none⟩ = some (.slice Ao12 t385.length co12) := (blk_cell BK381.out 1).trans rfl; have hcz35_2 : w34.cell? ⟨gb381, 2, none⟩ = some (.slice Ao13 t388.length co13) := (blk_cell BK381.out 2).trans rfl; have hfz35_0 := blk_frozen BK381.out 0; have hfz35_1 := blk_frozen BK381.out 1; have hfz35_2 := blk_frozen BK381.out 2; have p401 : 0 ≤ (a1 : Int) := of_decide_eq_true (by first | (with_reducible assumption) | assumption); have q401 : a1 < (t388.length : Int) := of_decide_eq_true (by first | (with_reducible assumption) | assumption); obtain ⟨ad401, A401_3, c401_3, e401, hx401_0, hx401_1, hx401_2, hx401_3, hl401_3, hi401_3⟩ := at_T44 (Kd.V_reads' HO_382002.out).2.2 a1 p401 q401; cases e401; obtain ⟨ce401, hce401, hMe401, hcc401⟩ := Kd.V_get HO_382002.out z44 a1 p401 (by first | exact q401 | exact of_decide_eq_true (by first | (with_reducible assumption) | assumption) | (have e_ := (Kd.V_reads' HO_382002.out).1; omega)); obtain ⟨ua401_3, uc401_3, rfl, ul401_3, ge401_3⟩ := k44_openF hMe401; have hv401_3 := hcc401 3 _ rfl; rw [add_field _ _ 3 (by omega)] at hv401_3; replace hv401_3 := Option.some.inj (hv401_3.symm.trans hx401_3); injection hv401_3 with hva_ hvn_ hvc_; rw [hva_] at ge401_3; rw [hvc_] at ul401_3; have HL401_3 := Aside0.mk (show Kd.V (Kd.int .i64) 3 _ w.heap.size _ _ ((rd_T44 t388 a1).f3) from Kd.V_mk ul401_3 ge401_3); clear hva_ hvn_ hvc_ ge401_3 ul401_3; clear hcc401 hce401; have HR401_3 := Aside0.mk hi401_3; have HC401_3 := Aside0.mk hl401_3; clear hi401_3 hl401_3; replace p401 := eq_true p401; replace q401 := eq_true q401))
                go_meet
                case rel => exact ⟨_, ((((rd_T44 t388 a1).f0) == 0)), (by first | rfl | (simp; done) | (simp [*]; done)), H', ⟨by have := HK1.out; first | omega | exact Nat.le_refl _⟩, ⟨by (with_reducible repeat (first | apply Kd.V_alloc | apply Kd.V_drewN | apply Kd.V_drew)); exact Kd.V_mono HO_7.out (fun _ hk => hk.2)⟩, ⟨by (with_reducible repeat (first | apply Kd.V_alloc | apply Kd.V_drewN | apply Kd.V_drew)); exact Kd.V_mono HO_382000.out (fun _ hk => hk.2)⟩, ⟨by (with_reducible repeat (first | apply Kd.V_alloc | apply Kd.V_drewN | apply Kd.V_drew)); exact Kd.V_mono HO_382001.out (fun _ hk => hk.2)⟩, ⟨by (with_reducible repeat (first | apply Kd.V_alloc | apply Kd.V_drewN | apply Kd.V_drew)); exact Kd.V_mono HO_382002.out (fun _ hk => hk.2)⟩, ⟨by (with_reducible repeat (first | refine blk_drewN ?_ _ | refine blk_drew ?_ | refine blk_alloc ?_ _)); exact BK381.out⟩, ⟨by repeat (first | (with_reducible first | exact HB.out | apply below_alloc | apply pw_below_drewN | apply below_drew1 | refine below_set ?_ GE381.out) | exact HB.out)⟩⟩
              · rw [if_neg c32] at H
                exact absurd H (by simp)
            · rw [if_neg c31] at H
              exact absurd H (by simp)
          · replace c30 := Bool.eq_false_iff.mpr c30
            subst c30
            have H1 : (cavillaw15_ViewTells.j1 k1 a1 a2 t391 x9_1 true t382 t385 t388) = some r := by rw [if_neg (show ¬ (false = true) by decide)] at H; exact H
            clear H
            have H := H1
            clear H1
            have H' := Aside0.mk H
            clear H
            have hcz36_0 : wr.cell? ⟨gb381, 0, none⟩ = some (.slice Ao10 t382.length co10) := (blk_cell BK381.out 0).trans rfl
            have hcz36_1 : wr.cell? ⟨gb381, 1, none⟩ = some (.slice Ao12 t385.length co12) := (blk_cell BK381.out 1).trans rfl
            have hcz36_2 : wr.cell? ⟨gb381, 2, none⟩ = some (.slice Ao13 t388.length co13) := (blk_cell BK381.out 2).trans rfl
            have hfz36_0 := blk_frozen BK381.out 0
            have hfz36_1 := blk_frozen BK381.out 1
            have hfz36_2 := blk_frozen BK381.out 2
            go_wp2_with (first | ((with_reducible refine gate_callee (f := 18) rfl ?_); refine goesL_ (some 92) rfl rfl Try.func18 (by kernel_rfl) rfl #[.agg #[.slice Ao13 t388.length co13], .int .i64 a1] rfl (by (try simp only [List.map_toArray, List.map_cons, List.map_nil]); first | done | rfl | (simp only [List.length_drop, List.length_take]; rfl)) ?_; (with_reducible refine (cavilref15_In.calls _ _ t388 a1 false _ ?side1 ?side2 A29.out).mono ?_); (case side1 => repeat (first | exact (Kd.V_reads' HO_382002.out).2.2 | (with_reducible refine Kd.C_alloc ?_ _) | (with_reducible refine Kd.C_drewN ?_ _) | (with_reducible refine Kd.C_drew ?_))); (case side2 => exact (Kd.V_reads' HO_382002.out).2.1); rintro e w37 ⟨rfl, hb⟩; refine ⟨_, rfl, ?_⟩; have n0_ := Aside0.mk (Kd.V_below (by (with_reducible repeat (first | apply Kd.V_alloc | apply Kd.V_drewN | apply Kd.V_drew)); exact HO_7.out) hb); have n1_ := Aside0.mk (Kd.R_below (by (with_reducible repeat (first | apply Kd.R_alloc | apply Kd.R_drewN | apply Kd.R_drew)); exact HO_71.out) hb); have n2_ := Aside0.mk (Kd.V_below (by (with_reducible repeat (first | apply Kd.V_alloc | apply Kd.V_drewN | apply Kd.V_drew)); exact HO_382000.out) hb); have n3_ := Aside0.mk (Kd.V_below (by (with_reducible repeat (first | apply Kd.V_alloc | apply Kd.V_drewN | apply Kd.V_drew)); exact HO_382001.out) hb); have n4_ := Aside0.mk (Kd.V_below (by (with_reducible repeat (first | apply Kd.V_alloc | apply Kd.V_drewN | apply Kd.V_drew)); exact HO_382002.out) hb); have n5_ := Aside0.mk (blk_below (g := gb381) (o := .cells #[.slice Ao10 t382.length co10, .slice Ao12 t385.length co12, .slice Ao13 t388.length co13] 28 (0, 0)) (by (with_reducible repeat (first | refine blk_drewN ?_ _ | refine blk_drew ?_ | refine blk_alloc ?_ _)); exact BK381.out) hb); have n6_ := Aside0.mk (below_step (by repeat (first | (with_reducible first | exact HB.out | apply below_alloc | apply pw_below_drewN | apply below_drew1 | refine below_set ?_ GE381.out) | exact HB.out)) hb); clear HO_7; clear HO_71; clear HO_382000; clear HO_382001; clear HO_382002; clear BK381; clear HB; have HO_7 := n0_; have HO_71 := n1_; have HO_382000 := n2_; have HO_382001 := n3_; have HO_382002 := n4_; have BK381 := n5_; have HB := n6_; clear n0_ n1_ n2_ n3_ n4_ n5_ n6_; (try clear hb); (try clear hb2); (try clear hk); (try clear hi)))
            go_meet
            case rel => exact ⟨_, (true), (by first | rfl | (simp; done) | (simp [*]; done)), H', ⟨by have := HK1.out; first | omega | exact Nat.le_refl _⟩, ⟨by (with_reducible repeat (first | apply Kd.V_alloc | apply Kd.V_drewN | apply Kd.V_drew)); exact Kd.V_mono HO_7.out (fun _ hk => hk.2)⟩, ⟨by (with_reducible repeat (first | apply Kd.V_alloc | apply Kd.V_drewN | apply Kd.V_drew)); exact Kd.V_mono HO_382000.out (fun _ hk => hk.2)⟩, ⟨by (with_reducible repeat (first | apply Kd.V_alloc | apply Kd.V_drewN | apply Kd.V_drew)); exact Kd.V_mono HO_382001.out (fun _ hk => hk.2)⟩, ⟨by (with_reducible repeat (first | apply Kd.V_alloc | apply Kd.V_drewN | apply Kd.V_drew)); exact Kd.V_mono HO_382002.out (fun _ hk => hk.2)⟩, ⟨by (with_reducible repeat (first | refine blk_drewN ?_ _ | refine blk_drew ?_ | refine blk_alloc ?_ _)); exact BK381.out⟩, ⟨by repeat (first | (with_reducible first | exact HB.out | apply below_alloc | apply pw_below_drewN | apply below_drew1 | refine below_set ?_ GE381.out) | exact HB.out)⟩⟩
        case rest =>
          clear HC28
          try clear c1
          try clear c2
          try clear p2
          try clear c3
          try clear p3
          try clear q3
          try clear hx3
          try clear c4
          try clear p4
          try clear q4
          try clear hx4
          try clear p6
          try clear c8
          try clear c9
          try clear c17
          try clear c18
          try clear c21
          try clear c21b0
          try clear c22
          try clear c22b0
          try clear c23
          try clear c23b0
          try clear c24
          try clear c25
          try clear c25b0
          try clear c26
          try clear c26b0
          try clear c30
          try clear c31
          try clear c31b0
          try clear c32
          try clear c32b0
          try clear hcz11_0
          try clear hcz11_1
          try clear hcz11_2
          try clear hcz15_0
          try clear hcz15_1
          try clear hcz15_2
          try clear hcz18_0
          try clear hcz18_1
          try clear hcz18_2
          try clear hcz27_0
          try clear hcz27_1
          try clear hcz27_2
          try clear hcz33_0
          try clear hcz33_1
          try clear hcz33_2
          try clear hcz35_0
          try clear hcz35_1
          try clear hcz35_2
          try clear hcz36_0
          try clear hcz36_1
          try clear hcz36_2
          try clear hcz8_0
          try clear hcz8_1
          try clear hcz8_2
          try clear hfz11_0
          try clear hfz11_1
          try clear hfz11_2
          try clear hfz15_0
          try clear hfz15_1
          try clear hfz15_2
          try clear hfz18_0
          try clear hfz18_1
          try clear hfz18_2
          try clear hfz27_0
          try clear hfz27_1
          try clear hfz27_2
          try clear hfz33_0
          try clear hfz33_1
          try clear hfz33_2
          try clear hfz35_0
          try clear hfz35_1
          try clear hfz35_2
          try clear hfz36_0
          try clear hfz36_1
          try clear hfz36_2
          try clear hfz8_0
          try clear hfz8_1
          try clear hfz8_2
          try clear hx398_0
          try clear hx399_0
          try clear hx399_1
          try clear hx399_2
          try clear hx399_3
          try clear hx399_4
          try clear hx401_0
          try clear hx401_1
          try clear hx401_2
          try clear hx401_3
          try clear p2
          try clear p398
          try clear p399
          try clear p401
          try clear q398
          try clear q399
          try clear q401
          obtain ⟨kq, x12_27, rfl, HA, HJ27, HO_7, HO_382000, HO_382001, HO_382002, BK381, HB⟩ := hcut
          cases kq with
          | zero => exact absurd HA.out (by simp [cavillaw15_ViewTells.j1])
          | succ kj27 =>
            have H := HA.out
            clear HA
            simp only [cavillaw15_ViewTells.j1] at H
            replace H := Option.bind_eq_some_iff.mp H
            obtain ⟨t402, A380, H⟩ := H
            replace H : ((cavilref15_Op.f kj27 t385 t388 a1).bind fun t403 => (if t402 = t403 then ((view_File_Chan.f kj27 t391 a1).bind fun t404 => ((cavilref15_Chan.f kj27 t385 t388 a1).bind fun t405 => (if t404 = t405 then ((view_File_Span.f kj27 t391 a1).bind fun bt406 => ((cavilref15_Span.f kj27 t385 t388 a1).bind fun bt408 => (if (bt406.1 == bt408.1 && (bt406.2 == bt408.2)) = true then ((view_File_Has.f kj27 t391 a1 a2).bind fun t410 => (if (t410 == x9_1) = true then ((view_File_Empty.f t391 a1).bind fun t411 => (if (t411 == x12_27) = true then ((cavillaw15_works.f kj27).bind fun t412 => (some t412)) else (some false))) else (some false))) else (some false)))) else (some false)))) else (some false))) = some r := H
            have A38 := Aside0.mk A380
            clear A380
            replace H := Option.bind_eq_some_iff.mp H
            obtain ⟨t403, A390, H⟩ := H
            replace H : (if t402 = t403 then ((view_File_Chan.f kj27 t391 a1).bind fun t404 => ((cavilref15_Chan.f kj27 t385 t388 a1).bind fun t405 => (if t404 = t405 then ((view_File_Span.f kj27 t391 a1).bind fun bt406 => ((cavilref15_Span.f kj27 t385 t388 a1).bind fun bt408 => (if (bt406.1 == bt408.1 && (bt406.2 == bt408.2)) = true then ((view_File_Has.f kj27 t391 a1 a2).bind fun t410 => (if (t410 == x9_1) = true then ((view_File_Empty.f t391 a1).bind fun t411 => (if (t411 == x12_27) = true then ((cavillaw15_works.f kj27).bind fun t412 => (some t412)) else (some false))) else (some false))) else (some false)))) else (some false)))) else (some false)) = some r := H
            have A39 := Aside0.mk A390
            clear A390
            by_cases c40 : t402 = t403
            · rw [if_pos c40] at H
              have c40b0 : (t402 == t403) = true := beq_iff_eq.mpr c40
              have c40b1 : (t402 != t403) = false := bne_eq_false_iff_eq.mpr c40
              clear c40
              replace H := Option.bind_eq_some_iff.mp H
              obtain ⟨t404, A410, H⟩ := H
              replace H : ((cavilref15_Chan.f kj27 t385 t388 a1).bind fun t405 => (if t404 = t405 then ((view_File_Span.f kj27 t391 a1).bind fun bt406 => ((cavilref15_Span.f kj27 t385 t388 a1).bind fun bt408 => (if (bt406.1 == bt408.1 && (bt406.2 == bt408.2)) = true then ((view_File_Has.f kj27 t391 a1 a2).bind fun t410 => (if (t410 == x9_1) = true then ((view_File_Empty.f t391 a1).bind fun t411 => (if (t411 == x12_27) = true then ((cavillaw15_works.f kj27).bind fun t412 => (some t412)) else (some false))) else (some false))) else (some false)))) else (some false))) = some r := H
              have A41 := Aside0.mk A410
              clear A410
              replace H := Option.bind_eq_some_iff.mp H
              obtain ⟨t405, A420, H⟩ := H
              replace H : (if t404 = t405 then ((view_File_Span.f kj27 t391 a1).bind fun bt406 => ((cavilref15_Span.f kj27 t385 t388 a1).bind fun bt408 => (if (bt406.1 == bt408.1 && (bt406.2 == bt408.2)) = true then ((view_File_Has.f kj27 t391 a1 a2).bind fun t410 => (if (t410 == x9_1) = true then ((view_File_Empty.f t391 a1).bind fun t411 => (if (t411 == x12_27) = true then ((cavillaw15_works.f kj27).bind fun t412 => (some t412)) else (some false))) else (some false))) else (some false)))) else (some false)) = some r := H
              have A42 := Aside0.mk A420
              clear A420
              by_cases c43 : t404 = t405
              · rw [if_pos c43] at H
                have c43b0 : (t404 == t405) = true := beq_iff_eq.mpr c43
                have c43b1 : (t404 != t405) = false := bne_eq_false_iff_eq.mpr c43
                clear c43
                replace H := Option.bind_eq_some_iff.mp H
                obtain ⟨⟨t406, t407⟩, A440, H⟩ := H
                replace H : ((cavilref15_Span.f kj27 t385 t388 a1).bind fun bt408 => (if (t406 == bt408.1 && (t407 == bt408.2)) = true then ((view_File_Has.f kj27 t391 a1 a2).bind fun t410 => (if (t410 == x9_1) = true then ((view_File_Empty.f t391 a1).bind fun t411 => (if (t411 == x12_27) = true then ((cavillaw15_works.f kj27).bind fun t412 => (some t412)) else (some false))) else (some false))) else (some false))) = some r := H
                have A44 := Aside0.mk A440
                clear A440
                replace H := Option.bind_eq_some_iff.mp H
                obtain ⟨⟨t408, t409⟩, A450, H⟩ := H
                replace H : (if (t406 == t408 && (t407 == t409)) = true then ((view_File_Has.f kj27 t391 a1 a2).bind fun t410 => (if (t410 == x9_1) = true then ((view_File_Empty.f t391 a1).bind fun t411 => (if (t411 == x12_27) = true then ((cavillaw15_works.f kj27).bind fun t412 => (some t412)) else (some false))) else (some false))) else (some false)) = some r := H
                have A45 := Aside0.mk A450
                clear A450
                by_cases c46 : (t406 == t408 && (t407 == t409)) = true
                · rw [if_pos c46] at H
                  have c46b0 : (t406 == t408 && (t407 == t409)) = true := c46
                  (try (have c46b1 : decide (t406 = t408 && (t407 == t409)) = true := by simpa using c46))
                  (try (have c46b2 : (t406 == t408 && (t407 == t409)) = true := by simpa using c46))
                  clear c46
                  replace H := Option.bind_eq_some_iff.mp H
                  obtain ⟨t410, A470, H⟩ := H
                  replace H : (if (t410 == x9_1) = true then ((view_File_Empty.f t391 a1).bind fun t411 => (if (t411 == x12_27) = true then ((cavillaw15_works.f kj27).bind fun t412 => (some t412)) else (some false))) else (some false)) = some r := H
                  have A47 := Aside0.mk A470
                  clear A470
                  by_cases c48 : (t410 == x9_1) = true
                  · rw [if_pos c48] at H
                    have c48b0 : (t410 == x9_1) = true := c48
                    (try (have c48b1 : decide (t410 = x9_1) = true := by simpa using c48))
                    (try (have c48b2 : (t410 == x9_1) = true := by simpa using c48))
                    clear c48
                    replace H := Option.bind_eq_some_iff.mp H
                    obtain ⟨t411, A490, H⟩ := H
                    replace H : (if (t411 == x12_27) = true then ((cavillaw15_works.f kj27).bind fun t412 => (some t412)) else (some false)) = some r := H
                    have A49 := Aside0.mk A490
                    clear A490
                    by_cases c50 : (t411 == x12_27) = true
                    · rw [if_pos c50] at H
                      have c50b0 : (t411 == x12_27) = true := c50
                      (try (have c50b1 : decide (t411 = x12_27) = true := by simpa using c50))
                      (try (have c50b2 : (t411 == x12_27) = true := by simpa using c50))
                      clear c50
                      replace H := Option.bind_eq_some_iff.mp H
                      obtain ⟨t412, A510, H⟩ := H
                      replace H : (some t412) = some r := H
                      have A51 := Aside0.mk A510
                      clear A510
                      obtain rfl := Option.some.inj H
                      try go_wp2
                      have n0_ := Aside0.mk (Kd.V_drew HO_7.out)
                      have n1_ := Aside0.mk (Kd.V_drew HO_382000.out)
                      have n2_ := Aside0.mk (Kd.V_drew HO_382001.out)
                      have n3_ := Aside0.mk (Kd.V_drew HO_382002.out)
                      have n4_ := Aside0.mk (blk_drew BK381.out)
                      have n5_ := Aside0.mk (below_drew1 HB.out)
                      clear HO_7
                      clear HO_382000
                      clear HO_382001
                      clear HO_382002
                      clear BK381
                      clear HB
                      have HO_7 := n0_
                      have HO_382000 := n1_
                      have HO_382001 := n2_
                      have HO_382002 := n3_
                      have BK381 := n4_
                      have HB := n5_
                      clear n0_ n1_ n2_ n3_ n4_ n5_
                      refine start_ (n := 53) (S := fun w' => w'.cell? ⟨gb381, 0, none⟩ = some (.slice Ao10 t382.length co10) ∧ w'.cell? ⟨gb381, 1, none⟩ = some (.slice Ao12 t385.length co12) ∧ w'.cell? ⟨gb381, 2, none⟩ = some (.slice Ao13 t388.length co13)) (ds := []) #[false, false, false, false, false, false, false, false, false, false, false, false, false, false, false, false, false, false, false, false, false, false, false, false, false, false, false, false, false, false, false, false, false, false, false, false, false, false, false, false, false, false, false, false, false, false, false, false, false, false, false, false, false] (by kernel_rfl) rfl rfl ⟨(blk_cell BK381.out 0).trans rfl, (blk_cell BK381.out 1).trans rfl, (blk_cell BK381.out 2).trans rfl⟩ (fun hHeld => ?_); refine with_tabW cavillaw15_ViewTells.tab12 cavillaw15_ViewTells.bits12 (fun HT_ HW_ => ?_)
                      generalize wc.drew = w52 at HO_7 HO_382000 HO_382001 HO_382002 BK381 HB hHeld ⊢
                      refine pure_ (i := 0) (N := some 104) (v := ?_) (a' := ?_) (bl_ 53 1) rfl rfl (any_of HT_.out (by kernel_rfl)) (fun _ _ _ h => h) (Or.inl ⟨by rfl, ?_⟩) ?_ ?_; rotate_left; { intro w'; go_simp; with_reducible rfl }; rotate_left; { simp only [Act.put, List.setIfInBounds_toArray, List.set_cons_zero, List.set_cons_succ, i64_w, i32_w]; rfl }
                      refine pure_ (i := 1) (N := some 105) (v := ?_) (a' := ?_) (bl_ 53 3) rfl rfl (any_of HT_.out (by kernel_rfl)) (fun _ _ _ h => h) (Or.inl ⟨by rfl, ?_⟩) ?_ ?_; rotate_left; { intro w'; go_simp; with_reducible rfl }; rotate_left; { simp only [Act.put, List.setIfInBounds_toArray, List.set_cons_zero, List.set_cons_succ, i64_w, i32_w]; rfl }
                      refine pure_ (i := 3) (N := some 107) (v := ?_) (a' := ?_) (bl_ 53 11) rfl rfl (any_of HT_.out (by kernel_rfl)) (fun _ _ _ h => h) (Or.inl ⟨by rfl, ?_⟩) ?_ ?_; rotate_left; { intro w'; go_simp; with_reducible rfl }; rotate_left; { simp only [Act.put, List.setIfInBounds_toArray, List.set_cons_zero, List.set_cons_succ, i64_w, i32_w]; rfl }
                      refine pure_ (i := 5) (N := some 109) (v := ?_) (a' := ?_) (bl_ 53 43) rfl rfl (any_of HT_.out (by kernel_rfl)) (fun _ _ _ h => h) (Or.inl ⟨by rfl, ?_⟩) ?_ ?_; rotate_left; { intro w'; go_simp; with_reducible rfl }; rotate_left; { simp only [Act.put, List.setIfInBounds_toArray, List.set_cons_zero, List.set_cons_succ, i64_w, i32_w]; rfl }
                      refine pure_ (i := 7) (N := some 111) (v := ?_) (a' := ?_) (bl_ 53 171) rfl rfl (any_of HT_.out (by kernel_rfl)) (fun _ _ _ h => h) (Or.inl ⟨by rfl, ?_⟩) ?_ ?_; rotate_left; { intro w'; go_simp; with_reducible rfl }; rotate_left; { simp only [Act.put, List.setIfInBounds_toArray, List.set_cons_zero, List.set_cons_succ, i64_w, i32_w]; rfl }
                      refine take_ (i := 4) (N := some 108) (v := ?_) (a' := ?_) (bl_ 53 187) rfl rfl (take_ofW HT_.out HW_.out (by kernel_rfl)) (fun _ _ _ h => h) (Or.inl ⟨by rfl, ?_⟩) hHeld ?_ ?_; rotate_left; { rintro w' ⟨s0, s1, s2⟩; go_simp; with_reducible rfl }; rotate_left; { simp only [Act.put, List.setIfInBounds_toArray, List.set_cons_zero, List.set_cons_succ, i64_w, i32_w]; rfl }
                      refine take_ (i := 6) (N := some 110) (v := ?_) (a' := ?_) (bl_ 53 251) rfl rfl (take_ofW HT_.out HW_.out (by kernel_rfl)) (fun _ _ _ h => h) (Or.inl ⟨by rfl, ?_⟩) hHeld ?_ ?_; rotate_left; { rintro w' ⟨s0, s1, s2⟩; go_simp; with_reducible rfl }; rotate_left; { simp only [Act.put, List.setIfInBounds_toArray, List.set_cons_zero, List.set_cons_succ, i64_w, i32_w]; rfl }
                      refine one_ (i := 2) (N := some 106) (bl_ 53 255) rfl rfl (one_of HT_.out (by kernel_rfl)) (by decide) (fun K hK => ?_)
                      refine goes_ Try.func13 (by kernel_rfl) rfl #[.pointer (some ado17), .int .i64 a1] (by rfl) rfl rfl (by (try simp only [List.map_toArray, List.map_cons, List.map_nil]); first | done | rfl | (simp only [List.length_drop, List.length_take]; rfl)) ?_
                      with_reducible refine (view_File_Op.calls kj27 _ co17 t391 a1 t402 _ ?side1 ?side2 A38.out).mono ?_
                      (case side1 => repeat (first | exact (Kd.V_reads' HO_7.out).2.2 | (with_reducible refine Kd.C_alloc ?_ _) | (with_reducible refine Kd.C_drewN ?_ _) | (with_reducible refine Kd.C_drew ?_)))
                      (case side2 => exact (Kd.V_reads' HO_7.out).2.1)
                      rintro e w53 ⟨rfl, hb⟩
                      refine ⟨_, rfl, ?_⟩
                      have n0_ := Aside0.mk (Kd.V_below (by (with_reducible repeat (first | apply Kd.V_alloc | apply Kd.V_drewN | apply Kd.V_drew)); exact HO_7.out) hb)
                      have n1_ := Aside0.mk (Kd.V_below (by (with_reducible repeat (first | apply Kd.V_alloc | apply Kd.V_drewN | apply Kd.V_drew)); exact HO_382000.out) hb)
                      have n2_ := Aside0.mk (Kd.V_below (by (with_reducible repeat (first | apply Kd.V_alloc | apply Kd.V_drewN | apply Kd.V_drew)); exact HO_382001.out) hb)
                      have n3_ := Aside0.mk (Kd.V_below (by (with_reducible repeat (first | apply Kd.V_alloc | apply Kd.V_drewN | apply Kd.V_drew)); exact HO_382002.out) hb)
                      have n4_ := Aside0.mk (blk_below (g := gb381) (o := .cells #[.slice Ao10 t382.length co10, .slice Ao12 t385.length co12, .slice Ao13 t388.length co13] 28 (0, 0)) (by (with_reducible repeat (first | refine blk_drewN ?_ _ | refine blk_drew ?_ | refine blk_alloc ?_ _)); exact BK381.out) hb)
                      have n5_ := Aside0.mk (below_step (by repeat (first | (with_reducible first | exact HB.out | apply below_alloc | apply pw_below_drewN | apply below_drew1 | refine below_set ?_ GE381.out) | exact HB.out)) hb)
                      clear HO_7
                      clear HO_382000
                      clear HO_382001
                      clear HO_382002
                      clear BK381
                      clear HB
                      have HO_7 := n0_
                      have HO_382000 := n1_
                      have HO_382001 := n2_
                      have HO_382002 := n3_
                      have BK381 := n4_
                      have HB := n5_
                      clear n0_ n1_ n2_ n3_ n4_ n5_
                      (try clear hb)
                      (try clear hb2)
                      (try clear hk)
                      (try clear hi)
                      refine hK.out _ _ ⟨(blk_cell BK381.out 0).trans rfl, (blk_cell BK381.out 1).trans rfl, (blk_cell BK381.out 2).trans rfl⟩ (fun hHeld => ?_)
                      clear hK K
                      refine norm_ (a' := ?_) ?_ ?_; rotate_left; { show Act.put _ (some 106) _ = _; simp only [Act.put, List.setIfInBounds_toArray, List.set_cons_zero, List.set_cons_succ, i64_w, i32_w]; rfl }
                      refine one_ (i := 8) (N := some 112) (bl_ 53 511) rfl rfl (one_of HT_.out (by kernel_rfl)) (by decide) (fun K hK => ?_)
                      refine goes_ Try.func19 (by kernel_rfl) rfl #[.slice Ao12 t385.length co12, .agg #[.slice Ao13 t388.length co13], .int .i64 a1] (by rfl) rfl rfl (by (try simp only [List.map_toArray, List.map_cons, List.map_nil]); first | done | rfl | (simp only [List.length_drop, List.length_take]; rfl)) ?_
                      with_reducible refine (cavilref15_Op.calls kj27 _ _ t385 _ _ t388 a1 t403 _ ?side1 ?side2 ?side3 ?side4 A39.out).mono ?_
                      (case side1 => repeat (first | exact (Kd.V_reads' HO_382001.out).2.2 | (with_reducible refine Kd.C_alloc ?_ _) | (with_reducible refine Kd.C_drewN ?_ _) | (with_reducible refine Kd.C_drew ?_)))
                      (case side2 => exact (Kd.V_reads' HO_382001.out).2.1)
                      (case side3 => repeat (first | exact (Kd.V_reads' HO_382002.out).2.2 | (with_reducible refine Kd.C_alloc ?_ _) | (with_reducible refine Kd.C_drewN ?_ _) | (with_reducible refine Kd.C_drew ?_)))
                      (case side4 => exact (Kd.V_reads' HO_382002.out).2.1)
                      rintro e w54 ⟨rfl, hb⟩
                      refine ⟨_, rfl, ?_⟩
                      have n0_ := Aside0.mk (Kd.V_below (by (with_reducible repeat (first | apply Kd.V_alloc | apply Kd.V_drewN | apply Kd.V_drew)); exact HO_7.out) hb)
                      have n1_ := Aside0.mk (Kd.V_below (by (with_reducible repeat (first | apply Kd.V_alloc | apply Kd.V_drewN | apply Kd.V_drew)); exact HO_382000.out) hb)
                      have n2_ := Aside0.mk (Kd.V_below (by (with_reducible repeat (first | apply Kd.V_alloc | apply Kd.V_drewN | apply Kd.V_drew)); exact HO_382001.out) hb)
                      have n3_ := Aside0.mk (Kd.V_below (by (with_reducible repeat (first | apply Kd.V_alloc | apply Kd.V_drewN | apply Kd.V_drew)); exact HO_382002.out) hb)
                      have n4_ := Aside0.mk (blk_below (g := gb381) (o := .cells #[.slice Ao10 t382.length co10, .slice Ao12 t385.length co12, .slice Ao13 t388.length co13] 28 (0, 0)) (by (with_reducible repeat (first | refine blk_drewN ?_ _ | refine blk_drew ?_ | refine blk_alloc ?_ _)); exact BK381.out) hb)
                      have n5_ := Aside0.mk (below_step (by repeat (first | (with_reducible first | exact HB.out | apply below_alloc | apply pw_below_drewN | apply below_drew1 | refine below_set ?_ GE381.out) | exact HB.out)) hb)
                      clear HO_7
                      clear HO_382000
                      clear HO_382001
                      clear HO_382002
                      clear BK381
                      clear HB
                      have HO_7 := n0_
                      have HO_382000 := n1_
                      have HO_382001 := n2_
                      have HO_382002 := n3_
                      have BK381 := n4_
                      have HB := n5_
                      clear n0_ n1_ n2_ n3_ n4_ n5_
                      (try clear hb)
                      (try clear hb2)
                      (try clear hk)
                      (try clear hi)
                      refine hK.out _ _ ⟨(blk_cell BK381.out 0).trans rfl, (blk_cell BK381.out 1).trans rfl, (blk_cell BK381.out 2).trans rfl⟩ (fun hHeld => ?_)
                      clear hK K
                      refine norm_ (a' := ?_) ?_ ?_; rotate_left; { show Act.put _ (some 112) _ = _; simp only [Act.put, List.setIfInBounds_toArray, List.set_cons_zero, List.set_cons_succ, i64_w, i32_w]; rfl }
                      refine pure_ (i := 9) (N := some 113) (v := ?_) (a' := ?_) (bl_ 53 1023) rfl rfl (any_of HT_.out (by kernel_rfl)) (fun _ _ _ h => h) (Or.inl ⟨by rfl, ?_⟩) ?_ ?_; rotate_left; { intro w'; go_simp; with_reducible rfl }; rotate_left; { simp only [Act.put, List.setIfInBounds_toArray, List.set_cons_zero, List.set_cons_succ, i64_w, i32_w]; rfl }
                      refine pure_ (i := 10) (N := some 114) (v := ?_) (a' := ?_) (bl_ 53 2047) rfl rfl (any_of HT_.out (by kernel_rfl)) (fun _ _ _ h => h) (Or.inl ⟨by rfl, ?_⟩) ?_ ?_; rotate_left; { intro w'; go_simp; with_reducible rfl }; rotate_left; { simp only [Act.put, List.setIfInBounds_toArray, List.set_cons_zero, List.set_cons_succ, i64_w, i32_w]; rfl }
                      refine pure_ (i := 11) (N := some 115) (v := ?_) (a' := ?_) (bl_ 53 4095) rfl rfl (any_of HT_.out (by kernel_rfl)) (fun _ _ _ h => h) (Or.inl ⟨by rfl, ?_⟩) ?_ ?_; rotate_left; { intro w'; go_simp; with_reducible rfl }; rotate_left; { simp only [Act.put, List.setIfInBounds_toArray, List.set_cons_zero, List.set_cons_succ, i64_w, i32_w]; rfl }
                      refine pure_ (i := 12) (N := some 116) (v := ?_) (a' := ?_) (bl_ 53 8191) rfl rfl (any_of HT_.out (by kernel_rfl)) (fun _ _ _ h => h) (Or.inl ⟨by rfl, ?_⟩) ?_ ?_; rotate_left; { intro w'; go_simp; with_reducible rfl }; rotate_left; { simp only [Act.put, List.setIfInBounds_toArray, List.set_cons_zero, List.set_cons_succ, i64_w, i32_w]; rfl }
                      refine pure_ (i := 14) (N := some 118) (v := ?_) (a' := ?_) (bl_ 53 24575) rfl rfl (any_of HT_.out (by kernel_rfl)) (fun _ _ _ h => h) (Or.inl ⟨by rfl, ?_⟩) ?_ ?_; rotate_left; { intro w'; go_simp; with_reducible rfl }; rotate_left; { simp only [Act.put, List.setIfInBounds_toArray, List.set_cons_zero, List.set_cons_succ, i64_w, i32_w]; rfl }
                      refine pure_ (i := 16) (N := some 120) (v := ?_) (a' := ?_) (bl_ 53 90111) rfl rfl (any_of HT_.out (by kernel_rfl)) (fun _ _ _ h => h) (Or.inl ⟨by rfl, ?_⟩) ?_ ?_; rotate_left; { intro w'; go_simp; with_reducible rfl }; rotate_left; { simp only [Act.put, List.setIfInBounds_toArray, List.set_cons_zero, List.set_cons_succ, i64_w, i32_w]; rfl }
                      refine pure_ (i := 18) (N := some 122) (v := ?_) (a' := ?_) (bl_ 53 352255) rfl rfl (any_of HT_.out (by kernel_rfl)) (fun _ _ _ h => h) (Or.inl ⟨by rfl, ?_⟩) ?_ ?_; rotate_left; { intro w'; go_simp; with_reducible rfl }; rotate_left; { simp only [Act.put, List.setIfInBounds_toArray, List.set_cons_zero, List.set_cons_succ, i64_w, i32_w]; rfl }
                      refine take_ (i := 15) (N := some 119) (v := ?_) (a' := ?_) (bl_ 53 385023) rfl rfl (take_ofW HT_.out HW_.out (by kernel_rfl)) (fun _ _ _ h => h) (Or.inl ⟨by rfl, ?_⟩) hHeld ?_ ?_; rotate_left; { rintro w' ⟨s0, s1, s2⟩; go_simp; with_reducible rfl }; rotate_left; { simp only [Act.put, List.setIfInBounds_toArray, List.set_cons_zero, List.set_cons_succ, i64_w, i32_w]; rfl }
                      refine take_ (i := 17) (N := some 121) (v := ?_) (a' := ?_) (bl_ 53 516095) rfl rfl (take_ofW HT_.out HW_.out (by kernel_rfl)) (fun _ _ _ h => h) (Or.inl ⟨by rfl, ?_⟩) hHeld ?_ ?_; rotate_left; { rintro w' ⟨s0, s1, s2⟩; go_simp; with_reducible rfl }; rotate_left; { simp only [Act.put, List.setIfInBounds_toArray, List.set_cons_zero, List.set_cons_succ, i64_w, i32_w]; rfl }
                      refine one_ (i := 13) (N := some 117) (bl_ 53 524287) rfl rfl (one_of HT_.out (by kernel_rfl)) (by decide) (fun K hK => ?_)
                      refine goes_ Try.func14 (by kernel_rfl) rfl #[.pointer (some ado17), .int .i64 a1] (by rfl) rfl rfl (by (try simp only [List.map_toArray, List.map_cons, List.map_nil]); first | done | rfl | (simp only [List.length_drop, List.length_take]; rfl)) ?_
                      with_reducible refine (view_File_Chan.calls kj27 _ co17 t391 a1 t404 _ ?side1 ?side2 A41.out).mono ?_
                      (case side1 => repeat (first | exact (Kd.V_reads' HO_7.out).2.2 | (with_reducible refine Kd.C_alloc ?_ _) | (with_reducible refine Kd.C_drewN ?_ _) | (with_reducible refine Kd.C_drew ?_)))
                      (case side2 => exact (Kd.V_reads' HO_7.out).2.1)
                      rintro e w55 ⟨rfl, hb⟩
                      refine ⟨_, rfl, ?_⟩
                      have n0_ := Aside0.mk (Kd.V_below (by (with_reducible repeat (first | apply Kd.V_alloc | apply Kd.V_drewN | apply Kd.V_drew)); exact HO_7.out) hb)
                      have n1_ := Aside0.mk (Kd.V_below (by (with_reducible repeat (first | apply Kd.V_alloc | apply Kd.V_drewN | apply Kd.V_drew)); exact HO_382000.out) hb)
                      have n2_ := Aside0.mk (Kd.V_below (by (with_reducible repeat (first | apply Kd.V_alloc | apply Kd.V_drewN | apply Kd.V_drew)); exact HO_382001.out) hb)
                      have n3_ := Aside0.mk (Kd.V_below (by (with_reducible repeat (first | apply Kd.V_alloc | apply Kd.V_drewN | apply Kd.V_drew)); exact HO_382002.out) hb)
                      have n4_ := Aside0.mk (blk_below (g := gb381) (o := .cells #[.slice Ao10 t382.length co10, .slice Ao12 t385.length co12, .slice Ao13 t388.length co13] 28 (0, 0)) (by (with_reducible repeat (first | refine blk_drewN ?_ _ | refine blk_drew ?_ | refine blk_alloc ?_ _)); exact BK381.out) hb)
                      have n5_ := Aside0.mk (below_step (by repeat (first | (with_reducible first | exact HB.out | apply below_alloc | apply pw_below_drewN | apply below_drew1 | refine below_set ?_ GE381.out) | exact HB.out)) hb)
                      clear HO_7
                      clear HO_382000
                      clear HO_382001
                      clear HO_382002
                      clear BK381
                      clear HB
                      have HO_7 := n0_
                      have HO_382000 := n1_
                      have HO_382001 := n2_
                      have HO_382002 := n3_
                      have BK381 := n4_
                      have HB := n5_
                      clear n0_ n1_ n2_ n3_ n4_ n5_
                      (try clear hb)
                      (try clear hb2)
                      (try clear hk)
                      (try clear hi)
                      refine hK.out _ _ ⟨(blk_cell BK381.out 0).trans rfl, (blk_cell BK381.out 1).trans rfl, (blk_cell BK381.out 2).trans rfl⟩ (fun hHeld => ?_)
                      clear hK K
                      refine norm_ (a' := ?_) ?_ ?_; rotate_left; { show Act.put _ (some 117) _ = _; simp only [Act.put, List.setIfInBounds_toArray, List.set_cons_zero, List.set_cons_succ, i64_w, i32_w]; rfl }
                      refine one_ (i := 19) (N := some 123) (bl_ 53 1048575) rfl rfl (one_of HT_.out (by kernel_rfl)) (by decide) (fun K hK => ?_)
                      refine goes_ Try.func20 (by kernel_rfl) rfl #[.slice Ao12 t385.length co12, .agg #[.slice Ao13 t388.length co13], .int .i64 a1] (by rfl) rfl rfl (by (try simp only [List.map_toArray, List.map_cons, List.map_nil]); first | done | rfl | (simp only [List.length_drop, List.length_take]; rfl)) ?_
                      with_reducible refine (cavilref15_Chan.calls kj27 _ _ t385 _ _ t388 a1 t405 _ ?side1 ?side2 ?side3 ?side4 A42.out).mono ?_
                      (case side1 => repeat (first | exact (Kd.V_reads' HO_382001.out).2.2 | (with_reducible refine Kd.C_alloc ?_ _) | (with_reducible refine Kd.C_drewN ?_ _) | (with_reducible refine Kd.C_drew ?_)))
                      (case side2 => exact (Kd.V_reads' HO_382001.out).2.1)
                      (case side3 => repeat (first | exact (Kd.V_reads' HO_382002.out).2.2 | (with_reducible refine Kd.C_alloc ?_ _) | (with_reducible refine Kd.C_drewN ?_ _) | (with_reducible refine Kd.C_drew ?_)))
                      (case side4 => exact (Kd.V_reads' HO_382002.out).2.1)
                      rintro e w56 ⟨rfl, hb⟩
                      refine ⟨_, rfl, ?_⟩
                      have n0_ := Aside0.mk (Kd.V_below (by (with_reducible repeat (first | apply Kd.V_alloc | apply Kd.V_drewN | apply Kd.V_drew)); exact HO_7.out) hb)
                      have n1_ := Aside0.mk (Kd.V_below (by (with_reducible repeat (first | apply Kd.V_alloc | apply Kd.V_drewN | apply Kd.V_drew)); exact HO_382000.out) hb)
                      have n2_ := Aside0.mk (Kd.V_below (by (with_reducible repeat (first | apply Kd.V_alloc | apply Kd.V_drewN | apply Kd.V_drew)); exact HO_382001.out) hb)
                      have n3_ := Aside0.mk (Kd.V_below (by (with_reducible repeat (first | apply Kd.V_alloc | apply Kd.V_drewN | apply Kd.V_drew)); exact HO_382002.out) hb)
                      have n4_ := Aside0.mk (blk_below (g := gb381) (o := .cells #[.slice Ao10 t382.length co10, .slice Ao12 t385.length co12, .slice Ao13 t388.length co13] 28 (0, 0)) (by (with_reducible repeat (first | refine blk_drewN ?_ _ | refine blk_drew ?_ | refine blk_alloc ?_ _)); exact BK381.out) hb)
                      have n5_ := Aside0.mk (below_step (by repeat (first | (with_reducible first | exact HB.out | apply below_alloc | apply pw_below_drewN | apply below_drew1 | refine below_set ?_ GE381.out) | exact HB.out)) hb)
                      clear HO_7
                      clear HO_382000
                      clear HO_382001
                      clear HO_382002
                      clear BK381
                      clear HB
                      have HO_7 := n0_
                      have HO_382000 := n1_
                      have HO_382001 := n2_
                      have HO_382002 := n3_
                      have BK381 := n4_
                      have HB := n5_
                      clear n0_ n1_ n2_ n3_ n4_ n5_
                      (try clear hb)
                      (try clear hb2)
                      (try clear hk)
                      (try clear hi)
                      refine hK.out _ _ ⟨(blk_cell BK381.out 0).trans rfl, (blk_cell BK381.out 1).trans rfl, (blk_cell BK381.out 2).trans rfl⟩ (fun hHeld => ?_)
                      clear hK K
                      refine norm_ (a' := ?_) ?_ ?_; rotate_left; { show Act.put _ (some 123) _ = _; simp only [Act.put, List.setIfInBounds_toArray, List.set_cons_zero, List.set_cons_succ, i64_w, i32_w]; rfl }
                      refine pure_ (i := 20) (N := some 124) (v := ?_) (a' := ?_) (bl_ 53 2097151) rfl rfl (any_of HT_.out (by kernel_rfl)) (fun _ _ _ h => h) (Or.inl ⟨by rfl, ?_⟩) ?_ ?_; rotate_left; { intro w'; go_simp; with_reducible rfl }; rotate_left; { simp only [Act.put, List.setIfInBounds_toArray, List.set_cons_zero, List.set_cons_succ, i64_w, i32_w]; rfl }
                      refine pure_ (i := 21) (N := some 125) (v := ?_) (a' := ?_) (bl_ 53 4194303) rfl rfl (any_of HT_.out (by kernel_rfl)) (fun _ _ _ h => h) (Or.inl ⟨by rfl, ?_⟩) ?_ ?_; rotate_left; { intro w'; go_simp; with_reducible rfl }; rotate_left; { simp only [Act.put, List.setIfInBounds_toArray, List.set_cons_zero, List.set_cons_succ, i64_w, i32_w]; rfl }
                      refine pure_ (i := 22) (N := some 126) (v := ?_) (a' := ?_) (bl_ 53 8388607) rfl rfl (any_of HT_.out (by kernel_rfl)) (fun _ _ _ h => h) (Or.inl ⟨by rfl, ?_⟩) ?_ ?_; rotate_left; { intro w'; go_simp; with_reducible rfl }; rotate_left; { simp only [Act.put, List.setIfInBounds_toArray, List.set_cons_zero, List.set_cons_succ, i64_w, i32_w]; rfl }
                      refine pure_ (i := 23) (N := some 127) (v := ?_) (a' := ?_) (bl_ 53 16777215) rfl rfl (any_of HT_.out (by kernel_rfl)) (fun _ _ _ h => h) (Or.inl ⟨by rfl, ?_⟩) ?_ ?_; rotate_left; { intro w'; go_simp; with_reducible rfl }; rotate_left; { simp only [Act.put, List.setIfInBounds_toArray, List.set_cons_zero, List.set_cons_succ, i64_w, i32_w]; rfl }
                      refine pure_ (i := 24) (N := some 128) (v := ?_) (a' := ?_) (bl_ 53 33554431) rfl rfl (any_of HT_.out (by kernel_rfl)) (fun _ _ _ h => h) (Or.inl ⟨by rfl, ?_⟩) ?_ ?_; rotate_left; { intro w'; go_simp; with_reducible rfl }; rotate_left; { simp only [Act.put, List.setIfInBounds_toArray, List.set_cons_zero, List.set_cons_succ, i64_w, i32_w]; rfl }
                      refine pure_ (i := 26) (N := some 130) (v := ?_) (a' := ?_) (bl_ 53 100663295) rfl rfl (any_of HT_.out (by kernel_rfl)) (fun _ _ _ h => h) (Or.inl ⟨by rfl, ?_⟩) ?_ ?_; rotate_left; { intro w'; go_simp; with_reducible rfl }; rotate_left; { simp only [Act.put, List.setIfInBounds_toArray, List.set_cons_zero, List.set_cons_succ, i64_w, i32_w]; rfl }
                      refine pure_ (i := 28) (N := some 132) (v := ?_) (a' := ?_) (bl_ 53 369098751) rfl rfl (any_of HT_.out (by kernel_rfl)) (fun _ _ _ h => h) (Or.inl ⟨by rfl, ?_⟩) ?_ ?_; rotate_left; { intro w'; go_simp; with_reducible rfl }; rotate_left; { simp only [Act.put, List.setIfInBounds_toArray, List.set_cons_zero, List.set_cons_succ, i64_w, i32_w]; rfl }
                      refine pure_ (i := 30) (N := some 134) (v := ?_) (a' := ?_) (bl_ 53 1442840575) rfl rfl (any_of HT_.out (by kernel_rfl)) (fun _ _ _ h => h) (Or.inl ⟨by rfl, ?_⟩) ?_ ?_; rotate_left; { intro w'; go_simp; with_reducible rfl }; rotate_left; { simp only [Act.put, List.setIfInBounds_toArray, List.set_cons_zero, List.set_cons_succ, i64_w, i32_w]; rfl }
                      refine take_ (i := 27) (N := some 131) (v := ?_) (a' := ?_) (bl_ 53 1577058303) rfl rfl (take_ofW HT_.out HW_.out (by kernel_rfl)) (fun _ _ _ h => h) (Or.inl ⟨by rfl, ?_⟩) hHeld ?_ ?_; rotate_left; { rintro w' ⟨s0, s1, s2⟩; go_simp; with_reducible rfl }; rotate_left; { simp only [Act.put, List.setIfInBounds_toArray, List.set_cons_zero, List.set_cons_succ, i64_w, i32_w]; rfl }
                      refine take_ (i := 29) (N := some 133) (v := ?_) (a' := ?_) (bl_ 53 2113929215) rfl rfl (take_ofW HT_.out HW_.out (by kernel_rfl)) (fun _ _ _ h => h) (Or.inl ⟨by rfl, ?_⟩) hHeld ?_ ?_; rotate_left; { rintro w' ⟨s0, s1, s2⟩; go_simp; with_reducible rfl }; rotate_left; { simp only [Act.put, List.setIfInBounds_toArray, List.set_cons_zero, List.set_cons_succ, i64_w, i32_w]; rfl }
                      refine one_ (i := 25) (N := some 129) (bl_ 53 2147483647) rfl rfl (one_of HT_.out (by kernel_rfl)) (by decide) (fun K hK => ?_)
                      refine goes_ Try.func11 (by kernel_rfl) rfl #[.pointer (some ado17), .int .i64 a1] (by rfl) rfl rfl (by (try simp only [List.map_toArray, List.map_cons, List.map_nil]); first | done | rfl | (simp only [List.length_drop, List.length_take]; rfl)) ?_
                      with_reducible refine (view_File_Span.calls kj27 _ co17 t391 a1 t406 t407 _ ?side1 ?side2 A44.out).mono ?_
                      (case side1 => repeat (first | exact (Kd.V_reads' HO_7.out).2.2 | (with_reducible refine Kd.C_alloc ?_ _) | (with_reducible refine Kd.C_drewN ?_ _) | (with_reducible refine Kd.C_drew ?_)))
                      (case side2 => exact (Kd.V_reads' HO_7.out).2.1)
                      rintro e w57 ⟨rfl, hb⟩
                      refine ⟨_, rfl, ?_⟩
                      have n0_ := Aside0.mk (Kd.V_below (by (with_reducible repeat (first | apply Kd.V_alloc | apply Kd.V_drewN | apply Kd.V_drew)); exact HO_7.out) hb)
                      have n1_ := Aside0.mk (Kd.V_below (by (with_reducible repeat (first | apply Kd.V_alloc | apply Kd.V_drewN | apply Kd.V_drew)); exact HO_382000.out) hb)
                      have n2_ := Aside0.mk (Kd.V_below (by (with_reducible repeat (first | apply Kd.V_alloc | apply Kd.V_drewN | apply Kd.V_drew)); exact HO_382001.out) hb)
                      have n3_ := Aside0.mk (Kd.V_below (by (with_reducible repeat (first | apply Kd.V_alloc | apply Kd.V_drewN | apply Kd.V_drew)); exact HO_382002.out) hb)
                      have n4_ := Aside0.mk (blk_below (g := gb381) (o := .cells #[.slice Ao10 t382.length co10, .slice Ao12 t385.length co12, .slice Ao13 t388.length co13] 28 (0, 0)) (by (with_reducible repeat (first | refine blk_drewN ?_ _ | refine blk_drew ?_ | refine blk_alloc ?_ _)); exact BK381.out) hb)
                      have n5_ := Aside0.mk (below_step (by repeat (first | (with_reducible first | exact HB.out | apply below_alloc | apply pw_below_drewN | apply below_drew1 | refine below_set ?_ GE381.out) | exact HB.out)) hb)
                      clear HO_7
                      clear HO_382000
                      clear HO_382001
                      clear HO_382002
                      clear BK381
                      clear HB
                      have HO_7 := n0_
                      have HO_382000 := n1_
                      have HO_382001 := n2_
                      have HO_382002 := n3_
                      have BK381 := n4_
                      have HB := n5_
                      clear n0_ n1_ n2_ n3_ n4_ n5_
                      (try clear hb)
                      (try clear hb2)
                      (try clear hk)
                      (try clear hi)
                      refine hK.out _ _ ⟨(blk_cell BK381.out 0).trans rfl, (blk_cell BK381.out 1).trans rfl, (blk_cell BK381.out 2).trans rfl⟩ (fun hHeld => ?_)
                      clear hK K
                      refine norm_ (a' := ?_) ?_ ?_; rotate_left; { show Act.put _ (some 129) _ = _; simp only [Act.put, List.setIfInBounds_toArray, List.set_cons_zero, List.set_cons_succ, i64_w, i32_w]; rfl }
                      refine one_ (i := 31) (N := some 135) (bl_ 53 4294967295) rfl rfl (one_of HT_.out (by kernel_rfl)) (by decide) (fun K hK => ?_)
                      refine goes_ Try.func21 (by kernel_rfl) rfl #[.slice Ao12 t385.length co12, .agg #[.slice Ao13 t388.length co13], .int .i64 a1] (by rfl) rfl rfl (by (try simp only [List.map_toArray, List.map_cons, List.map_nil]); first | done | rfl | (simp only [List.length_drop, List.length_take]; rfl)) ?_
                      with_reducible refine (cavilref15_Span.calls kj27 _ _ t385 _ _ t388 a1 t408 t409 _ ?side1 ?side2 ?side3 ?side4 A45.out).mono ?_
                      (case side1 => repeat (first | exact (Kd.V_reads' HO_382001.out).2.2 | (with_reducible refine Kd.C_alloc ?_ _) | (with_reducible refine Kd.C_drewN ?_ _) | (with_reducible refine Kd.C_drew ?_)))
                      (case side2 => exact (Kd.V_reads' HO_382001.out).2.1)
                      (case side3 => repeat (first | exact (Kd.V_reads' HO_382002.out).2.2 | (with_reducible refine Kd.C_alloc ?_ _) | (with_reducible refine Kd.C_drewN ?_ _) | (with_reducible refine Kd.C_drew ?_)))
                      (case side4 => exact (Kd.V_reads' HO_382002.out).2.1)
                      rintro e w58 ⟨rfl, hb⟩
                      refine ⟨_, rfl, ?_⟩
                      have n0_ := Aside0.mk (Kd.V_below (by (with_reducible repeat (first | apply Kd.V_alloc | apply Kd.V_drewN | apply Kd.V_drew)); exact HO_7.out) hb)
                      have n1_ := Aside0.mk (Kd.V_below (by (with_reducible repeat (first | apply Kd.V_alloc | apply Kd.V_drewN | apply Kd.V_drew)); exact HO_382000.out) hb)
                      have n2_ := Aside0.mk (Kd.V_below (by (with_reducible repeat (first | apply Kd.V_alloc | apply Kd.V_drewN | apply Kd.V_drew)); exact HO_382001.out) hb)
                      have n3_ := Aside0.mk (Kd.V_below (by (with_reducible repeat (first | apply Kd.V_alloc | apply Kd.V_drewN | apply Kd.V_drew)); exact HO_382002.out) hb)
                      have n4_ := Aside0.mk (blk_below (g := gb381) (o := .cells #[.slice Ao10 t382.length co10, .slice Ao12 t385.length co12, .slice Ao13 t388.length co13] 28 (0, 0)) (by (with_reducible repeat (first | refine blk_drewN ?_ _ | refine blk_drew ?_ | refine blk_alloc ?_ _)); exact BK381.out) hb)
                      have n5_ := Aside0.mk (below_step (by repeat (first | (with_reducible first | exact HB.out | apply below_alloc | apply pw_below_drewN | apply below_drew1 | refine below_set ?_ GE381.out) | exact HB.out)) hb)
                      clear HO_7
                      clear HO_382000
                      clear HO_382001
                      clear HO_382002
                      clear BK381
                      clear HB
                      have HO_7 := n0_
                      have HO_382000 := n1_
                      have HO_382001 := n2_
                      have HO_382002 := n3_
                      have BK381 := n4_
                      have HB := n5_
                      clear n0_ n1_ n2_ n3_ n4_ n5_
                      (try clear hb)
                      (try clear hb2)
                      (try clear hk)
                      (try clear hi)
                      refine hK.out _ _ ⟨(blk_cell BK381.out 0).trans rfl, (blk_cell BK381.out 1).trans rfl, (blk_cell BK381.out 2).trans rfl⟩ (fun hHeld => ?_)
                      clear hK K
                      refine norm_ (a' := ?_) ?_ ?_; rotate_left; { show Act.put _ (some 135) _ = _; simp only [Act.put, List.setIfInBounds_toArray, List.set_cons_zero, List.set_cons_succ, i64_w, i32_w]; rfl }
                      refine pure_ (i := 32) (N := some 136) (v := ?_) (a' := ?_) (bl_ 53 8589934591) rfl rfl (any_of HT_.out (by kernel_rfl)) (fun _ _ _ h => h) (Or.inl ⟨by rfl, ?_⟩) ?_ ?_; rotate_left; { intro w'; go_simp; with_reducible rfl }; rotate_left; { simp only [Act.put, List.setIfInBounds_toArray, List.set_cons_zero, List.set_cons_succ, i64_w, i32_w]; rfl }
                      refine pure_ (i := 33) (N := some 137) (v := ?_) (a' := ?_) (bl_ 53 17179869183) rfl rfl (any_of HT_.out (by kernel_rfl)) (fun _ _ _ h => h) (Or.inl ⟨by rfl, ?_⟩) ?_ ?_; rotate_left; { intro w'; go_simp; with_reducible rfl }; rotate_left; { simp only [Act.put, List.setIfInBounds_toArray, List.set_cons_zero, List.set_cons_succ, i64_w, i32_w]; rfl }
                      refine pure_ (i := 34) (N := some 138) (v := ?_) (a' := ?_) (bl_ 53 34359738367) rfl rfl (any_of HT_.out (by kernel_rfl)) (fun _ _ _ h => h) (Or.inl ⟨by rfl, ?_⟩) ?_ ?_; rotate_left; { intro w'; go_simp; with_reducible rfl }; rotate_left; { simp only [Act.put, List.setIfInBounds_toArray, List.set_cons_zero, List.set_cons_succ, i64_w, i32_w]; rfl }
                      refine pure_ (i := 35) (N := some 139) (v := ?_) (a' := ?_) (bl_ 53 68719476735) rfl rfl (any_of HT_.out (by kernel_rfl)) (fun _ _ _ h => h) (Or.inl ⟨by rfl, ?_⟩) ?_ ?_; rotate_left; { intro w'; go_simp; with_reducible rfl }; rotate_left; { simp only [Act.put, List.setIfInBounds_toArray, List.set_cons_zero, List.set_cons_succ, i64_w, i32_w]; rfl }
                      refine pure_ (i := 36) (N := some 140) (v := ?_) (a' := ?_) (bl_ 53 137438953471) rfl rfl (any_of HT_.out (by kernel_rfl)) (fun _ _ _ h => h) (Or.inl ⟨by rfl, ?_⟩) ?_ ?_; rotate_left; { intro w'; go_simp; with_reducible rfl }; rotate_left; { simp only [Act.put, List.setIfInBounds_toArray, List.set_cons_zero, List.set_cons_succ, i64_w, i32_w]; rfl }
                      refine pure_ (i := 37) (N := some 141) (v := ?_) (a' := ?_) (bl_ 53 274877906943) rfl rfl (any_of HT_.out (by kernel_rfl)) (fun _ _ _ h => h) (Or.inl ⟨by rfl, ?_⟩) ?_ ?_; rotate_left; { intro w'; go_simp; with_reducible rfl }; rotate_left; { simp only [Act.put, List.setIfInBounds_toArray, List.set_cons_zero, List.set_cons_succ, i64_w, i32_w]; rfl }
                      refine pure_ (i := 39) (N := some 143) (v := ?_) (a' := ?_) (bl_ 53 824633720831) rfl rfl (any_of HT_.out (by kernel_rfl)) (fun _ _ _ h => h) (Or.inl ⟨by rfl, ?_⟩) ?_ ?_; rotate_left; { intro w'; go_simp; with_reducible rfl }; rotate_left; { simp only [Act.put, List.setIfInBounds_toArray, List.set_cons_zero, List.set_cons_succ, i64_w, i32_w]; rfl }
                      refine one_ (i := 38) (N := some 142) (bl_ 53 1099511627775) rfl rfl (one_of HT_.out (by kernel_rfl)) (by decide) (fun K hK => ?_)
                      refine goes_ Try.func15 (by kernel_rfl) rfl #[.pointer (some ado17), .int .i64 a1, .int .i64 a2] (by rfl) rfl rfl (by (try simp only [List.map_toArray, List.map_cons, List.map_nil]); first | done | rfl | (simp only [List.length_drop, List.length_take]; rfl)) ?_
                      with_reducible refine (view_File_Has.calls kj27 _ co17 t391 a1 a2 t410 _ ?side1 ?side2 A47.out).mono ?_
                      (case side1 => repeat (first | exact (Kd.V_reads' HO_7.out).2.2 | (with_reducible refine Kd.C_alloc ?_ _) | (with_reducible refine Kd.C_drewN ?_ _) | (with_reducible refine Kd.C_drew ?_)))
                      (case side2 => exact (Kd.V_reads' HO_7.out).2.1)
                      rintro e w59 ⟨rfl, hb⟩
                      refine ⟨_, rfl, ?_⟩
                      have n0_ := Aside0.mk (Kd.V_below (by (with_reducible repeat (first | apply Kd.V_alloc | apply Kd.V_drewN | apply Kd.V_drew)); exact HO_7.out) hb)
                      have n1_ := Aside0.mk (Kd.V_below (by (with_reducible repeat (first | apply Kd.V_alloc | apply Kd.V_drewN | apply Kd.V_drew)); exact HO_382000.out) hb)
                      have n2_ := Aside0.mk (Kd.V_below (by (with_reducible repeat (first | apply Kd.V_alloc | apply Kd.V_drewN | apply Kd.V_drew)); exact HO_382001.out) hb)
                      have n3_ := Aside0.mk (Kd.V_below (by (with_reducible repeat (first | apply Kd.V_alloc | apply Kd.V_drewN | apply Kd.V_drew)); exact HO_382002.out) hb)
                      have n4_ := Aside0.mk (blk_below (g := gb381) (o := .cells #[.slice Ao10 t382.length co10, .slice Ao12 t385.length co12, .slice Ao13 t388.length co13] 28 (0, 0)) (by (with_reducible repeat (first | refine blk_drewN ?_ _ | refine blk_drew ?_ | refine blk_alloc ?_ _)); exact BK381.out) hb)
                      have n5_ := Aside0.mk (below_step (by repeat (first | (with_reducible first | exact HB.out | apply below_alloc | apply pw_below_drewN | apply below_drew1 | refine below_set ?_ GE381.out) | exact HB.out)) hb)
                      clear HO_7
                      clear HO_382000
                      clear HO_382001
                      clear HO_382002
                      clear BK381
                      clear HB
                      have HO_7 := n0_
                      have HO_382000 := n1_
                      have HO_382001 := n2_
                      have HO_382002 := n3_
                      have BK381 := n4_
                      have HB := n5_
                      clear n0_ n1_ n2_ n3_ n4_ n5_
                      (try clear hb)
                      (try clear hb2)
                      (try clear hk)
                      (try clear hi)
                      refine hK.out _ _ ⟨(blk_cell BK381.out 0).trans rfl, (blk_cell BK381.out 1).trans rfl, (blk_cell BK381.out 2).trans rfl⟩ (fun hHeld => ?_)
                      clear hK K
                      refine norm_ (a' := ?_) ?_ ?_; rotate_left; { show Act.put _ (some 142) _ = _; simp only [Act.put, List.setIfInBounds_toArray, List.set_cons_zero, List.set_cons_succ, i64_w, i32_w]; rfl }
                      refine pure_ (i := 40) (N := some 144) (v := ?_) (a' := ?_) (bl_ 53 2199023255551) rfl rfl (any_of HT_.out (by kernel_rfl)) (fun _ _ _ h => h) (Or.inl ⟨by rfl, ?_⟩) ?_ ?_; rotate_left; { intro w'; go_simp; with_reducible rfl }; rotate_left; { simp only [Act.put, List.setIfInBounds_toArray, List.set_cons_zero, List.set_cons_succ, i64_w, i32_w]; rfl }
                      refine pure_ (i := 41) (N := some 145) (v := ?_) (a' := ?_) (bl_ 53 4398046511103) rfl rfl (any_of HT_.out (by kernel_rfl)) (fun _ _ _ h => h) (Or.inl ⟨by rfl, ?_⟩) ?_ ?_; rotate_left; { intro w'; go_simp; with_reducible rfl }; rotate_left; { simp only [Act.put, List.setIfInBounds_toArray, List.set_cons_zero, List.set_cons_succ, i64_w, i32_w]; rfl }
                      refine pure_ (i := 42) (N := some 146) (v := ?_) (a' := ?_) (bl_ 53 8796093022207) rfl rfl (any_of HT_.out (by kernel_rfl)) (fun _ _ _ h => h) (Or.inl ⟨by rfl, ?_⟩) ?_ ?_; rotate_left; { intro w'; go_simp; with_reducible rfl }; rotate_left; { simp only [Act.put, List.setIfInBounds_toArray, List.set_cons_zero, List.set_cons_succ, i64_w, i32_w]; rfl }
                      refine pure_ (i := 43) (N := some 147) (v := ?_) (a' := ?_) (bl_ 53 17592186044415) rfl rfl (any_of HT_.out (by kernel_rfl)) (fun _ _ _ h => h) (Or.inl ⟨by rfl, ?_⟩) ?_ ?_; rotate_left; { intro w'; go_simp; with_reducible rfl }; rotate_left; { simp only [Act.put, List.setIfInBounds_toArray, List.set_cons_zero, List.set_cons_succ, i64_w, i32_w]; rfl }
                      refine pure_ (i := 44) (N := some 148) (v := ?_) (a' := ?_) (bl_ 53 35184372088831) rfl rfl (any_of HT_.out (by kernel_rfl)) (fun _ _ _ h => h) (Or.inl ⟨by rfl, ?_⟩) ?_ ?_; rotate_left; { intro w'; go_simp; with_reducible rfl }; rotate_left; { simp only [Act.put, List.setIfInBounds_toArray, List.set_cons_zero, List.set_cons_succ, i64_w, i32_w]; rfl }
                      refine pure_ (i := 46) (N := some 150) (v := ?_) (a' := ?_) (bl_ 53 105553116266495) rfl rfl (any_of HT_.out (by kernel_rfl)) (fun _ _ _ h => h) (Or.inl ⟨by rfl, ?_⟩) ?_ ?_; rotate_left; { intro w'; go_simp; with_reducible rfl }; rotate_left; { simp only [Act.put, List.setIfInBounds_toArray, List.set_cons_zero, List.set_cons_succ, i64_w, i32_w]; rfl }
                      refine one_ (i := 45) (N := some 149) (bl_ 53 140737488355327) rfl rfl (one_of HT_.out (by kernel_rfl)) (by decide) (fun K hK => ?_)
                      refine goes_ Try.func16 (by kernel_rfl) rfl #[.pointer (some ado17), .int .i64 a1] (by rfl) rfl rfl (by (try simp only [List.map_toArray, List.map_cons, List.map_nil]); first | done | rfl | (simp only [List.length_drop, List.length_take]; rfl)) ?_
                      with_reducible refine (view_File_Empty.calls _ co17 t391 a1 t411 _ ?side1 ?side2 A49.out).mono ?_
                      (case side1 => repeat (first | exact (Kd.V_reads' HO_7.out).2.2 | (with_reducible refine Kd.C_alloc ?_ _) | (with_reducible refine Kd.C_drewN ?_ _) | (with_reducible refine Kd.C_drew ?_)))
                      (case side2 => exact (Kd.V_reads' HO_7.out).2.1)
                      rintro e w60 ⟨rfl, hb⟩
                      refine ⟨_, rfl, ?_⟩
                      have n0_ := Aside0.mk (Kd.V_below (by (with_reducible repeat (first | apply Kd.V_alloc | apply Kd.V_drewN | apply Kd.V_drew)); exact HO_7.out) hb)
                      have n1_ := Aside0.mk (Kd.V_below (by (with_reducible repeat (first | apply Kd.V_alloc | apply Kd.V_drewN | apply Kd.V_drew)); exact HO_382000.out) hb)
                      have n2_ := Aside0.mk (Kd.V_below (by (with_reducible repeat (first | apply Kd.V_alloc | apply Kd.V_drewN | apply Kd.V_drew)); exact HO_382001.out) hb)
                      have n3_ := Aside0.mk (Kd.V_below (by (with_reducible repeat (first | apply Kd.V_alloc | apply Kd.V_drewN | apply Kd.V_drew)); exact HO_382002.out) hb)
                      have n4_ := Aside0.mk (blk_below (g := gb381) (o := .cells #[.slice Ao10 t382.length co10, .slice Ao12 t385.length co12, .slice Ao13 t388.length co13] 28 (0, 0)) (by (with_reducible repeat (first | refine blk_drewN ?_ _ | refine blk_drew ?_ | refine blk_alloc ?_ _)); exact BK381.out) hb)
                      have n5_ := Aside0.mk (below_step (by repeat (first | (with_reducible first | exact HB.out | apply below_alloc | apply pw_below_drewN | apply below_drew1 | refine below_set ?_ GE381.out) | exact HB.out)) hb)
                      clear HO_7
                      clear HO_382000
                      clear HO_382001
                      clear HO_382002
                      clear BK381
                      clear HB
                      have HO_7 := n0_
                      have HO_382000 := n1_
                      have HO_382001 := n2_
                      have HO_382002 := n3_
                      have BK381 := n4_
                      have HB := n5_
                      clear n0_ n1_ n2_ n3_ n4_ n5_
                      (try clear hb)
                      (try clear hb2)
                      (try clear hk)
                      (try clear hi)
                      refine hK.out _ _ ⟨(blk_cell BK381.out 0).trans rfl, (blk_cell BK381.out 1).trans rfl, (blk_cell BK381.out 2).trans rfl⟩ (fun hHeld => ?_)
                      clear hK K
                      refine norm_ (a' := ?_) ?_ ?_; rotate_left; { show Act.put _ (some 149) _ = _; simp only [Act.put, List.setIfInBounds_toArray, List.set_cons_zero, List.set_cons_succ, i64_w, i32_w]; rfl }
                      refine pure_ (i := 47) (N := some 151) (v := ?_) (a' := ?_) (bl_ 53 281474976710655) rfl rfl (any_of HT_.out (by kernel_rfl)) (fun _ _ _ h => h) (Or.inl ⟨by rfl, ?_⟩) ?_ ?_; rotate_left; { intro w'; go_simp; with_reducible rfl }; rotate_left; { simp only [Act.put, List.setIfInBounds_toArray, List.set_cons_zero, List.set_cons_succ, i64_w, i32_w]; rfl }
                      refine pure_ (i := 48) (N := some 152) (v := ?_) (a' := ?_) (bl_ 53 562949953421311) rfl rfl (any_of HT_.out (by kernel_rfl)) (fun _ _ _ h => h) (Or.inl ⟨by rfl, ?_⟩) ?_ ?_; rotate_left; { intro w'; go_simp; with_reducible rfl }; rotate_left; { simp only [Act.put, List.setIfInBounds_toArray, List.set_cons_zero, List.set_cons_succ, i64_w, i32_w]; rfl }
                      refine pure_ (i := 49) (N := some 153) (v := ?_) (a' := ?_) (bl_ 53 1125899906842623) rfl rfl (any_of HT_.out (by kernel_rfl)) (fun _ _ _ h => h) (Or.inl ⟨by rfl, ?_⟩) ?_ ?_; rotate_left; { intro w'; go_simp; with_reducible rfl }; rotate_left; { simp only [Act.put, List.setIfInBounds_toArray, List.set_cons_zero, List.set_cons_succ, i64_w, i32_w]; rfl }
                      refine one_ (i := 50) (N := some 154) (bl_ 53 2251799813685247) rfl rfl (one_of HT_.out (by kernel_rfl)) (by decide) (fun K hK => ?_)
                      refine goes_ Try.func10 (by kernel_rfl) rfl #[] (by rfl) rfl rfl (by (try simp only [List.map_toArray, List.map_cons, List.map_nil]); first | done | rfl | (simp only [List.length_drop, List.length_take]; rfl)) ?_
                      with_reducible refine (cavillaw15_works.calls kj27  t412 _ A51.out).mono ?_
                      rintro e w61 ⟨rfl, hb⟩
                      refine ⟨_, rfl, ?_⟩
                      have n0_ := Aside0.mk (Kd.V_below (by (with_reducible repeat (first | apply Kd.V_alloc | apply Kd.V_drewN | apply Kd.V_drew)); exact HO_7.out) hb)
                      have n1_ := Aside0.mk (Kd.V_below (by (with_reducible repeat (first | apply Kd.V_alloc | apply Kd.V_drewN | apply Kd.V_drew)); exact HO_382000.out) hb)
                      have n2_ := Aside0.mk (Kd.V_below (by (with_reducible repeat (first | apply Kd.V_alloc | apply Kd.V_drewN | apply Kd.V_drew)); exact HO_382001.out) hb)
                      have n3_ := Aside0.mk (Kd.V_below (by (with_reducible repeat (first | apply Kd.V_alloc | apply Kd.V_drewN | apply Kd.V_drew)); exact HO_382002.out) hb)
                      have n4_ := Aside0.mk (blk_below (g := gb381) (o := .cells #[.slice Ao10 t382.length co10, .slice Ao12 t385.length co12, .slice Ao13 t388.length co13] 28 (0, 0)) (by (with_reducible repeat (first | refine blk_drewN ?_ _ | refine blk_drew ?_ | refine blk_alloc ?_ _)); exact BK381.out) hb)
                      have n5_ := Aside0.mk (below_step (by repeat (first | (with_reducible first | exact HB.out | apply below_alloc | apply pw_below_drewN | apply below_drew1 | refine below_set ?_ GE381.out) | exact HB.out)) hb)
                      clear HO_7
                      clear HO_382000
                      clear HO_382001
                      clear HO_382002
                      clear BK381
                      clear HB
                      have HO_7 := n0_
                      have HO_382000 := n1_
                      have HO_382001 := n2_
                      have HO_382002 := n3_
                      have BK381 := n4_
                      have HB := n5_
                      clear n0_ n1_ n2_ n3_ n4_ n5_
                      (try clear hb)
                      (try clear hb2)
                      (try clear hk)
                      (try clear hi)
                      refine hK.out _ _ ⟨(blk_cell BK381.out 0).trans rfl, (blk_cell BK381.out 1).trans rfl, (blk_cell BK381.out 2).trans rfl⟩ (fun hHeld => ?_)
                      clear hK K
                      refine norm_ (a' := ?_) ?_ ?_; rotate_left; { show Act.put _ (some 154) _ = _; simp only [Act.put, List.setIfInBounds_toArray, List.set_cons_zero, List.set_cons_succ, i64_w, i32_w]; rfl }
                      refine pure_ (i := 51) (N := some 155) (v := ?_) (a' := ?_) (bl_ 53 4503599627370495) rfl rfl (any_of HT_.out (by kernel_rfl)) (fun _ _ _ h => h) (Or.inl ⟨by rfl, ?_⟩) ?_ ?_; rotate_left; { intro w'; go_simp; with_reducible rfl }; rotate_left; { simp only [Act.put, List.setIfInBounds_toArray, List.set_cons_zero, List.set_cons_succ, i64_w, i32_w]; rfl }
                      refine pure_ (i := 52) (N := some 6) (v := ?_) (a' := ?_) (bl_ 53 9007199254740991) rfl rfl (any_of HT_.out (by kernel_rfl)) (fun _ _ _ h => h) (Or.inl ⟨by rfl, ?_⟩) ?_ ?_; rotate_left; { intro w'; go_simp; with_reducible rfl }; rotate_left; { simp only [Act.put, List.setIfInBounds_toArray, List.set_cons_zero, List.set_cons_succ, i64_w, i32_w]; rfl }
                      refine done_ (done_of HT_.out (by kernel_rfl)) ?_
                      try go_wp2
                      go_ret
                      exact ⟨by first | rfl | (simp [errW_none, errW_some, erT_no, erV_no, erT_at, erV_at] <;> rfl) | (simp [*, errW_none, errW_some, erT_no, erV_no, erT_at, erV_at] <;> rfl), by repeat (first | (with_reducible first | exact HB.out | apply below_alloc | apply pw_below_drewN | apply below_drew1 | refine below_set ?_ GE381.out) | exact HB.out)⟩
                    · rw [if_neg c50] at H
                      have c50b0 : (t411 == x12_27) = false := by simpa using c50
                      (try (have c50b1 : decide (t411 = x12_27) = false := by simpa using c50))
                      (try (have c50b2 : (t411 == x12_27) = false := by simpa using c50))
                      (try (have c50b3 : ((t411 = x12_27) = False) := by simpa using c50))
                      clear c50
                      exact absurd ((Option.some.inj H).trans HRT.out) (by decide)
                  · rw [if_neg c48] at H
                    have c48b0 : (t410 == x9_1) = false := by simpa using c48
                    (try (have c48b1 : decide (t410 = x9_1) = false := by simpa using c48))
                    (try (have c48b2 : (t410 == x9_1) = false := by simpa using c48))
                    (try (have c48b3 : ((t410 = x9_1) = False) := by simpa using c48))
                    clear c48
                    exact absurd ((Option.some.inj H).trans HRT.out) (by decide)
                · rw [if_neg c46] at H
                  have c46b0 : (t406 == t408 && (t407 == t409)) = false := by simpa using c46
                  (try (have c46b1 : decide (t406 = t408 && (t407 == t409)) = false := by simpa using c46))
                  (try (have c46b2 : (t406 == t408 && (t407 == t409)) = false := by simpa using c46))
                  (try (have c46b3 : ((t406 = t408 && (t407 == t409)) = False) := by simpa using c46))
                  clear c46
                  exact absurd ((Option.some.inj H).trans HRT.out) (by decide)
              · rw [if_neg c43] at H
                have c43b0 : (t404 == t405) = false := beq_eq_false_iff_ne.mpr c43
                have c43b1 : (t404 != t405) = true := bne_iff_ne.mpr c43
                exact absurd ((Option.some.inj H).trans HRT.out) (by decide)
            · rw [if_neg c40] at H
              have c40b0 : (t402 == t403) = false := beq_eq_false_iff_ne.mpr c40
              have c40b1 : (t402 != t403) = true := bne_iff_ne.mpr c40
              exact absurd ((Option.some.inj H).trans HRT.out) (by decide)

end Go.Proofs.Ytnpgadfoohjlnaa.QV
