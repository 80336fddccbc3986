/- Where a Lean function of this text answers, the Go function of its name comes to that answer: no other condition. Written by a program of this session out of the translation; Lean checks it. -/
import Derived.Test.YtnpgadfoohjlnaaDoorQV0
import Derived.Test.YtnpgadfoohjlnaaDoorQV1
import Derived.Test.YtnpgadfoohjlnaaDoorQV6
import Derived.Test.YtnpgadfoohjlnaaDoorQV8
import Derived.Test.YtnpgadfoohjlnaaDoorQV10
import Derived.Test.YtnpgadfoohjlnaaDoorQV11
namespace Go.Proofs.YtnpgadfoohjlnaaDoor.QV
open Go.RowKit Go.Proofs.YtnpgadfoohjlnaaDoorW.PrintWords Go.Proofs.YtnpgadfoohjlnaaDoorW.PrintLast Go.Proofs.YtnpgadfoohjlnaaDoorW.PrintMore Go.Proofs.YtnpgadfoohjlnaaDoorW.PrintX
attribute [local go_sem] max2_int min2_int max_two min_two max_three min_three max_four min_four   -- for this text's walks alone
set_option linter.unusedVariables false
set_option linter.unusedSimpArgs false

attribute [local go_sem high] eqA105
/-! ### cavillaw15_works: function 45 -/
def cavillaw15_works.f (k : Nat)  : Option (Bool) := (view_New.f k (([97, 32, 43, 32, 98] : List Int)) (([(⟨1, 0, 1, false, 0⟩ : S103), (⟨40, 2, 3, false, 0⟩ : S103), (⟨1, 4, 5, false, 0⟩ : S103)] : List (S103))) (([(⟨2, 0, 1, ([] : List Int)⟩ : S33), (⟨2, 2, 3, ([] : List Int)⟩ : S33), (⟨66, 0, 3, (([0, 1] : List Int))⟩ : S33)] : List (S33)))).bind fun bt267 => ((view_File_Op.f k bt267.1 2).bind fun t271 => (if t271 = 40 then ((view_File_Word.f bt267.1 1).bind fun t272 => (if t272.toList = ([98] : List UInt8) then ((view_File_Span.f k bt267.1 2).bind fun bt273 => (some (bt273.1 == 0 && (bt273.2 == 5)))) else (none))) else (none)))
theorem cavillaw15_works.mono : ∀ k, LeO (cavillaw15_works.f k ) (cavillaw15_works.f (k + 1) ) := by
 intro  k
 unfold cavillaw15_works.f
 repeat' first
   | (with_reducible exact view_File_Op.mono _ _ _)
   | (with_reducible exact view_File_Span.mono _ _ _)
   | (with_reducible exact view_New.mono _ _ _ _)
   | (with_reducible exact LeO.refl _)
   | (with_reducible exact LeO.none _)
   | (with_reducible refine LeO.ite ?_ ?_)
   | (with_reducible refine LeO.bind ?_ (fun _ => ?_))
   | exact view_File_Op.mono _ _ _
   | exact view_File_Span.mono _ _ _
   | exact view_New.mono _ _ _ _
   | exact LeO.none _
   | refine LeO.ite ?_ ?_
   | refine LeO.bind ?_ (fun _ => ?_)
set_option maxHeartbeats 8000000 in
set_option maxRecDepth 100000 in
theorem cavillaw15_works.calls (k : Nat)  (r : Bool) (w : World) (h : cavillaw15_works.f k  = some r) :
  Calls Tryd.prog 45 #[] w fun e w' => e = .returned (.bool r) ∧ Below w.heap.size w w' := by
 have hu103 := Tryd.underlying103
 have hu33 := Tryd.underlying33
 have hu24 := Tryd.underlying24
 have hu105 := Tryd.underlying105
 have hu27 := Tryd.underlying27
 have hu82 := Tryd.underlying82
 have HB := Aside0.mk (Below.refl w.heap.size w)
 have H : ((view_New.f k (([97, 32, 43, 32, 98] : List Int)) (([(⟨1, 0, 1, false, 0⟩ : S103), (⟨40, 2, 3, false, 0⟩ : S103), (⟨1, 4, 5, false, 0⟩ : S103)] : List (S103))) (([(⟨2, 0, 1, ([] : List Int)⟩ : S33), (⟨2, 2, 3, ([] : List Int)⟩ : S33), (⟨66, 0, 3, (([0, 1] : List Int))⟩ : S33)] : List (S33)))).bind fun bt267 => ((view_File_Op.f k bt267.1 2).bind fun t271 => (if t271 = 40 then ((view_File_Word.f bt267.1 1).bind fun t272 => (if t272.toList = ([98] : List UInt8) then ((view_File_Span.f k bt267.1 2).bind fun bt273 => (some (bt273.1 == 0 && (bt273.2 == 5)))) else (none))) else (none)))) = some r := h
 clear h
 obtain ⟨y255, hy255⟩ : ∃ y_ : List (S103), y_ = (([(⟨1, 0, 1, false, 0⟩ : S103), (⟨40, 2, 3, false, 0⟩ : S103), (⟨1, 4, 5, false, 0⟩ : S103)] : List (S103))) := ⟨_, rfl⟩
 replace H : ((view_New.f k (([97, 32, 43, 32, 98] : List Int)) y255 (([(⟨2, 0, 1, ([] : List Int)⟩ : S33), (⟨2, 2, 3, ([] : List Int)⟩ : S33), (⟨66, 0, 3, (([0, 1] : List Int))⟩ : S33)] : List (S33)))).bind fun bt267 => ((view_File_Op.f k bt267.1 2).bind fun t271 => (if t271 = 40 then ((view_File_Word.f bt267.1 1).bind fun t272 => (if t272.toList = ([98] : List UInt8) then ((view_File_Span.f k bt267.1 2).bind fun bt273 => (some (bt273.1 == 0 && (bt273.2 == 5)))) else (none))) else (none)))) = some r := by first | (rw [hy255]; with_reducible exact H) | (have H2_ := (Option.bind_some _ _).symm.trans H; rw [hy255]; with_reducible exact H2_) | (have H2_ := (Option.bind_some _ _).symm.trans H; with_reducible exact H2_) | with_reducible exact H | (rw [hy255]; exact H) | exact H
 have Ny255 := Aside0.mk hy255
 clear hy255
 obtain ⟨y258, hy258⟩ : ∃ y_ : List Int, y_ = (([97, 32, 43, 32, 98] : List Int)) := ⟨_, rfl⟩
 replace H : ((view_New.f k y258 y255 (([(⟨2, 0, 1, ([] : List Int)⟩ : S33), (⟨2, 2, 3, ([] : List Int)⟩ : S33), (⟨66, 0, 3, (([0, 1] : List Int))⟩ : S33)] : List (S33)))).bind fun bt267 => ((view_File_Op.f k bt267.1 2).bind fun t271 => (if t271 = 40 then ((view_File_Word.f bt267.1 1).bind fun t272 => (if t272.toList = ([98] : List UInt8) then ((view_File_Span.f k bt267.1 2).bind fun bt273 => (some (bt273.1 == 0 && (bt273.2 == 5)))) else (none))) else (none)))) = some r := by first | (rw [hy258]; with_reducible exact H) | (have H2_ := (Option.bind_some _ _).symm.trans H; rw [hy258]; with_reducible exact H2_) | (have H2_ := (Option.bind_some _ _).symm.trans H; with_reducible exact H2_) | with_reducible exact H | (rw [hy258]; exact H) | exact H
 have Ny258 := Aside0.mk hy258
 clear hy258
 obtain ⟨y261, hy261⟩ : ∃ y_ : List Int, y_ = (([0, 1] : List Int)) := ⟨_, rfl⟩
 replace H : ((view_New.f k y258 y255 (([(⟨2, 0, 1, ([] : List Int)⟩ : S33), (⟨2, 2, 3, ([] : List Int)⟩ : S33), (⟨66, 0, 3, y261⟩ : S33)] : List (S33)))).bind fun bt267 => ((view_File_Op.f k bt267.1 2).bind fun t271 => (if t271 = 40 then ((view_File_Word.f bt267.1 1).bind fun t272 => (if t272.toList = ([98] : List UInt8) then ((view_File_Span.f k bt267.1 2).bind fun bt273 => (some (bt273.1 == 0 && (bt273.2 == 5)))) else (none))) else (none)))) = some r := by first | (rw [hy261]; with_reducible exact H) | (have H2_ := (Option.bind_some _ _).symm.trans H; rw [hy261]; with_reducible exact H2_) | (have H2_ := (Option.bind_some _ _).symm.trans H; with_reducible exact H2_) | with_reducible exact H | (rw [hy261]; exact H) | exact H
 have Ny261 := Aside0.mk hy261
 clear hy261
 obtain ⟨y264, hy264⟩ : ∃ y_ : List (S33), y_ = (([(⟨2, 0, 1, ([] : List Int)⟩ : S33), (⟨2, 2, 3, ([] : List Int)⟩ : S33), (⟨66, 0, 3, y261⟩ : S33)] : List (S33))) := ⟨_, rfl⟩
 replace H : ((view_New.f k y258 y255 y264).bind fun bt267 => ((view_File_Op.f k bt267.1 2).bind fun t271 => (if t271 = 40 then ((view_File_Word.f bt267.1 1).bind fun t272 => (if t272.toList = ([98] : List UInt8) then ((view_File_Span.f k bt267.1 2).bind fun bt273 => (some (bt273.1 == 0 && (bt273.2 == 5)))) else (none))) else (none)))) = some r := by first | (rw [hy264]; with_reducible exact H) | (have H2_ := (Option.bind_some _ _).symm.trans H; rw [hy264]; with_reducible exact H2_) | (have H2_ := (Option.bind_some _ _).symm.trans H; with_reducible exact H2_) | with_reducible exact H | (rw [hy264]; exact H) | exact H
 have Ny264 := Aside0.mk hy264
 clear hy264
 replace H := Option.bind_eq_some_iff.mp H
 obtain ⟨⟨t267, t270⟩, A10, H⟩ := H
 replace H : ((view_File_Op.f k t267 2).bind fun t271 => (if t271 = 40 then ((view_File_Word.f t267 1).bind fun t272 => (if t272.toList = ([98] : List UInt8) then ((view_File_Span.f k t267 2).bind fun bt273 => (some (bt273.1 == 0 && (bt273.2 == 5)))) else (none))) else (none))) = some r := H
 have A1 := Aside0.mk A10
 clear A10
 replace H := Option.bind_eq_some_iff.mp H
 obtain ⟨t271, A20, H⟩ := H
 replace H : (if t271 = 40 then ((view_File_Word.f t267 1).bind fun t272 => (if t272.toList = ([98] : List UInt8) then ((view_File_Span.f k t267 2).bind fun bt273 => (some (bt273.1 == 0 && (bt273.2 == 5)))) else (none))) else (none)) = some r := H
 have A2 := Aside0.mk A20
 clear A20
 by_cases c3 : t271 = 40
 ·rw [if_pos c3] at H
  have c3b0 : (t271 == 40) = true := beq_iff_eq.mpr c3
  have c3b1 : (t271 != 40) = false := bne_eq_false_iff_eq.mpr c3
  clear c3
  replace H := Option.bind_eq_some_iff.mp H
  obtain ⟨t272, A40, H⟩ := H
  replace H : (if t272.toList = ([98] : List UInt8) then ((view_File_Span.f k t267 2).bind fun bt273 => (some (bt273.1 == 0 && (bt273.2 == 5)))) else (none)) = some r := H
  have A4 := Aside0.mk A40
  clear A40
  by_cases c5 : t272.toList = ([98] : List UInt8)
  ·rw [if_pos c5] at H
   have c5b0 : (t272.toList == ([98] : List UInt8)) = true := beq_iff_eq.mpr c5
   have c5b1 : (t272.toList != ([98] : List UInt8)) = false := bne_eq_false_iff_eq.mpr c5
   clear c5
   replace H := Option.bind_eq_some_iff.mp H
   obtain ⟨⟨t273, t274⟩, A60, H⟩ := H
   replace H : (some (t273 == 0 && (t274 == 5))) = some r := H
   have A6 := Aside0.mk A60
   clear A60
   obtain rfl := Option.some.inj H
   go_enter Tryd.func45, Tryd.ntmps45
   go_wp2_with (first | ((with_reducible refine gate_dst (N := 7) rfl ?_); refine Kd.R_lit k103 _ 103 ?hg (N := 7) ?hd (xs := ([(⟨1, 0, 1, false, 0⟩ : S103), (⟨40, 2, 3, false, 0⟩ : S103), (⟨1, 4, 5, false, 0⟩ : S103)] : List (S103))) (inner := [.int .i64 1, .int .i64 0, .int .i64 1, .bool false, .int .i64 0, .int .i64 40, .int .i64 2, .int .i64 3, .bool false, .int .i64 0, .int .i64 1, .int .i64 4, .int .i64 5, .bool false, .int .i64 0]) (ok := fun _ => True) (okp := fun _ => True) ?hr ?hp (fun _ hk => hk) trivial (Below.refl _ _) (Nat.le_refl _) (by simp) ?_; (case hd => rfl); (case hg => rfl); (case hr => first | (go_simp; done) | (go_simp; rfl)); (case hp => exact (Reps.c5 (show Kd.M k103 _ _ _ (⟨1, 0, 1, false, 0⟩ : S103) [.int .i64 1, .int .i64 0, .int .i64 1, .bool false, .int .i64 0] from (k103_mkM _ _ _ (⟨1, 0, 1, false, 0⟩ : S103) )) (Reps.c5 (show Kd.M k103 _ _ _ (⟨40, 2, 3, false, 0⟩ : S103) [.int .i64 40, .int .i64 2, .int .i64 3, .bool false, .int .i64 0] from (k103_mkM _ _ _ (⟨40, 2, 3, false, 0⟩ : S103) )) (Reps.c5 (show Kd.M k103 _ _ _ (⟨1, 4, 5, false, 0⟩ : S103) [.int .i64 1, .int .i64 4, .int .i64 5, .bool false, .int .i64 0] from (k103_mkM _ _ _ (⟨1, 4, 5, false, 0⟩ : S103) )) (Reps.none _ _))))); intro v256 w7 ho8 hb hg_ hnew_; clear hg_ hnew_; (first | rw [← Ny255.out] at ho8 | (simp only [Int.reduceToNat] at ho8; rw [← Ny255.out] at ho8)); have n0_ := Aside0.mk (Kd.R_lower ho8 (below_size (go_b HB.out))); have n1_ := Aside0.mk (below_step (go_b HB.out) hb); clear HB; have HO257 := n0_; have HB := n1_; clear n0_ n1_; clear hb ho8) | ((with_reducible refine gate_dst (N := 9) rfl ?_); refine Kd.V_const _ 5 rfl (N := 9) rfl rfl ([97, 32, 43, 32, 98] : List Int) 47 _ ?hr rfl (fun _ => rfl) Tryd.underlying47 Tryd.underlying5 (by decide) (Below.refl _ _) (Nat.le_refl _) ?_; (case hr => first | (go_simp; done) | (go_simp; rfl)); intro v259 w9 ho10 hb hg_ hnew_; clear hg_ hnew_; (first | rw [← Ny258.out] at ho10 | (simp only [Int.reduceToNat] at ho10; rw [← Ny258.out] at ho10)); have n0_ := Aside0.mk (Kd.R_below (go_R HO257.out) hb); have n1_ := Aside0.mk (Kd.V_lower (Kd.V_mono (ok' := fun k_ => some k_ ≠ (v256 : Value).ownBlock) ho10 (fun k_ hk_ => (Kd.fresh' (Kd.R_lt (go_R HO257.out)) k_ hk_))) (below_size (go_b HB.out))); have n2_ := Aside0.mk (below_step (go_b HB.out) hb); clear HO257; clear HB; have HO257 := n0_; have HO260 := n1_; have HB := n2_; clear n0_ n1_ n2_; clear hb ho10) | ((with_reducible refine gate_dst (N := 14) rfl ?_); refine Kd.R_lit (Kd.int .i64) _ 3 ?hg (N := 14) ?hd (xs := ([0, 1] : List Int)) (inner := [.int .i64 0, .int .i64 1]) (ok := fun _ => True) (okp := fun _ => True) ?hr ?hp (fun _ hk => hk) trivial (Below.refl _ _) (Nat.le_refl _) (by simp) ?_; (case hd => rfl); (case hg => rfl); (case hr => first | (go_simp; done) | (go_simp; rfl)); (case hp => exact (Reps.one (show Kd.M (Kd.int .i64) _ _ _ 0 [.int .i64 0] from rfl) (Reps.one (show Kd.M (Kd.int .i64) _ _ _ 1 [.int .i64 1] from rfl) (Reps.none _ _)))); intro v262 w11 ho12 hb hg_ hnew_; clear hg_ hnew_; (first | rw [← Ny261.out] at ho12 | (simp only [Int.reduceToNat] at ho12; rw [← Ny261.out] at ho12)); have n0_ := Aside0.mk (Kd.R_below (go_R HO257.out) hb); have n1_ := Aside0.mk (Kd.V_elder' (go_V HO260.out) (Kd.R_base ho12) hb); have n2_ := Aside0.mk (Kd.R_lower ho12 (below_size (go_b HB.out))); have n3_ := Aside0.mk (below_step (go_b HB.out) hb); clear HO257; clear HO260; clear HB; have HO257 := n0_; have HO260 := n1_; have HO263 := n2_; have HB := n3_; clear n0_ n1_ n2_ n3_; clear hb ho12; obtain ⟨Ao13, co13, eo13⟩ := Kd.R_slice HO263.out; subst eo13) | ((with_reducible refine gate_dst (N := 16) rfl ?_); refine Kd.N_lit k33 _ 33 ?hg (N' := 16) ?hd (xs := ([(⟨2, 0, 1, ([] : List Int)⟩ : S33), (⟨2, 2, 3, ([] : List Int)⟩ : S33), (⟨66, 0, 3, y261⟩ : S33)] : List (S33))) (inner := [.int .i64 2, .int .i64 0, .int .i64 1, .slice none 0 0, .int .i64 2, .int .i64 2, .int .i64 3, .slice none 0 0, .int .i64 66, .int .i64 0, .int .i64 3, .slice Ao13 y261.length co13]) (ok := (fun k_ => some k_ ≠ (v256 : Value).ownBlock)) (okp := (fun k_ => some k_ ≠ (v256 : Value).ownBlock)) ?hr ?hp (fun _ hk => hk) ((show ∀ k_, w11.heap.size ≤ k_ → (fun k_ => some k_ ≠ (v256 : Value).ownBlock) k_ from fun k_ hk => Kd.fresh' (Kd.R_lt (go_R HO257.out)) k_ hk) _ (Nat.le_refl _)) (Below.refl _ _) (Nat.le_refl _) (by simp) ?_; (case hd => rfl); (case hg => rfl); (case hr => first | (go_simp; done) | (go_simp; rfl)); (case hp => exact (Reps.c4 (show Kd.FK k33 _ _ (⟨2, 0, 1, ([] : List Int)⟩ : S33) [.int .i64 2, .int .i64 0, .int .i64 1, .slice none 0 0] from (k33_mkF _ _ (⟨2, 0, 1, ([] : List Int)⟩ : S33) (Nat.le_refl _) (Kd.F_nil _ _ _))) (Reps.c4 (show Kd.FK k33 _ _ (⟨2, 2, 3, ([] : List Int)⟩ : S33) [.int .i64 2, .int .i64 2, .int .i64 3, .slice none 0 0] from (k33_mkF _ _ (⟨2, 2, 3, ([] : List Int)⟩ : S33) (Nat.le_refl _) (Kd.F_nil _ _ _))) (Reps.c4 (show Kd.FK k33 _ _ (⟨66, 0, 3, y261⟩ : S33) [.int .i64 66, .int .i64 0, .int .i64 3, .slice Ao13 y261.length co13] from (k33_mkF _ _ (⟨66, 0, 3, y261⟩ : S33) (Kd.R_reads' (Kd.R_mono (ok' := (fun k_ => some k_ ≠ (v256 : Value).ownBlock)) (Kd.R_apart' (HO263.out) (Kd.R_typed HO257.out) (by decide)) (fun k_ hk => hk.2))).2.1 (Kd.R_F (Kd.R_mono (ok' := (fun k_ => some k_ ≠ (v256 : Value).ownBlock)) (Kd.R_apart' (HO263.out) (Kd.R_typed HO257.out) (by decide)) (fun k_ hk => hk.2))))) (Reps.none _ _))))); intro v265 w14 ho15 hb hg_ hnew_; clear hg_ hnew_; (first | rw [← Ny264.out] at ho15 | (simp only [Int.reduceToNat] at ho15; rw [← Ny264.out] at ho15)); have n0_ := Aside0.mk (Kd.R_below (go_R HO257.out) hb); have n1_ := Aside0.mk (Kd.V_elder' (go_V HO260.out) (Kd.N_base ho15) hb); have n2_ := Aside0.mk (Kd.N_lower ho15 (below_size (go_b HB.out))); have n3_ := Aside0.mk (below_step (go_b HB.out) hb); clear HO257; clear HO260; clear HB; clear HO263; have HO257 := n0_; have HO260 := n1_; have HO266 := n2_; have HB := n3_; clear n0_ n1_ n2_ n3_; clear hb ho15; obtain ⟨Ao16, co16, eo16⟩ := Kd.N_slice HO266.out; subst eo16; obtain ⟨Ao17, co17, eo17⟩ := Kd.V_slice HO260.out; subst eo17; obtain ⟨Ao18, co18, eo18⟩ := Kd.R_slice HO257.out; subst eo18) | ((with_reducible refine gate_callee (f := 39) rfl ?_); refine goesL_ (some 18) rfl rfl Tryd.func39 (by kernel_rfl) rfl #[.slice Ao17 y258.length co17, .slice Ao18 y255.length co18, .agg #[.slice Ao16 y264.length co16]] rfl (by (try simp only [List.map_toArray, List.map_cons, List.map_nil]); first | done | rfl | (simp only [List.length_drop, List.length_take]; rfl)) ?_; (with_reducible refine (view_New.calls k (fun k_ => (some k_ ≠ (.slice Ao18 y255.length co18 : Value).ownBlock ∧ some k_ ≠ (.slice Ao16 y264.length co16 : Value).ownBlock)) _ _ y258 (fun k_ => some k_ = (.slice Ao18 y255.length co18 : Value).ownBlock) _ _ y255 (fun k_ => some k_ ≠ (.slice Ao18 y255.length co18 : Value).ownBlock) _ _ y264 t267 t270 _ ?side1 ?side2 ?side3 A1.out).mono ?_); (case side1 => exact Kd.V_mono (ok' := fun k_ => (some k_ ≠ (.slice Ao18 y255.length co18 : Value).ownBlock ∧ some k_ ≠ (.slice Ao16 y264.length co16 : Value).ownBlock)) (HO260.out) (fun k_ hk_ => ⟨hk_.1.1, hk_.2⟩)); (case side2 => exact Kd.R_V (Kd.R_tight rfl (Kd.R_apart' (HO257.out) (Kd.N_typed HO266.out) (by decide)))); (case side3 => exact Kd.N_V (HO266.out)); rintro e w19 ⟨v268, rfl, ho0, hb⟩; refine ⟨_, rfl, ?_⟩; have n0_ := Aside0.mk (Kd.R_below (go_R HO257.out) hb); have n1_ := Aside0.mk (Kd.V_below (go_V HO260.out) hb); have n2_ := Aside0.mk (Kd.N_below (go_N HO266.out) hb); have n3_ := Aside0.mk (Kd.V_lower (Kd.V_mono (ok' := fun k_ => True) ho0 (fun k_ hk_ => trivial)) (below_size (go_b HB.out))); have n4_ := Aside0.mk (below_step (go_b HB.out) hb); clear HO257; clear HO260; clear HO266; clear HB; have HO257 := n0_; have HO260 := n1_; have HO266 := n2_; have HO269 := n3_; have HB := n4_; clear n0_ n1_ n2_ n3_ n4_; (try clear hb); (try clear hb2); (try clear hk); (try clear hi); (try clear ho0); (try simp only [errW_none, errW_some, erT_no, erV_no, erT_at, erV_at]); obtain ⟨ado20, co20, eo20⟩ := view_New.open HO269.out A1.out; subst eo20; (try simp only [view_New.ptr])) | (go_at_call 70; (with_reducible refine (view_File_Op.calls k _ co20 t267 2 t271 _ ?side1 ?side2 A2.out).mono ?_); (case side1 => repeat (first | exact (Kd.V_reads' HO269.out).2.2 | (with_reducible refine Kd.C_alloc ?_ _) | (with_reducible refine Kd.C_drewN ?_ _) | (with_reducible refine Kd.C_drew ?_))); (case side2 => exact (Kd.V_reads' HO269.out).2.1); rintro e w21 ⟨rfl, hb⟩; have n0_ := Aside0.mk (Kd.R_below (go_R HO257.out) hb); have n1_ := Aside0.mk (Kd.V_below (go_V HO260.out) hb); have n2_ := Aside0.mk (Kd.N_below (go_N HO266.out) hb); have n3_ := Aside0.mk (Kd.V_below (go_V HO269.out) hb); have n4_ := Aside0.mk (below_step (go_b HB.out) hb); clear HO257; clear HO260; clear HO266; clear HO269; clear HB; have HO257 := n0_; have HO260 := n1_; have HO266 := n2_; have HO269 := n3_; have HB := n4_; clear n0_ n1_ n2_ n3_ n4_; (try clear hb); (try clear hb2); (try clear hk); (try clear hi)) | (go_at_call 42; (with_reducible refine (view_File_Word.calls _ co20 t267 1 t272 _ ?side1 ?side2 A4.out).mono ?_); (case side1 => repeat (first | exact (Kd.V_reads' HO269.out).2.2 | (with_reducible refine Kd.C_alloc ?_ _) | (with_reducible refine Kd.C_drewN ?_ _) | (with_reducible refine Kd.C_drew ?_))); (case side2 => exact (Kd.V_reads' HO269.out).2.1); rintro e w22 ⟨rfl, hb⟩; have n0_ := Aside0.mk (Kd.R_below (go_R HO257.out) hb); have n1_ := Aside0.mk (Kd.V_below (go_V HO260.out) hb); have n2_ := Aside0.mk (Kd.N_below (go_N HO266.out) hb); have n3_ := Aside0.mk (Kd.V_below (go_V HO269.out) hb); have n4_ := Aside0.mk (below_step (go_b HB.out) hb); clear HO257; clear HO260; clear HO266; clear HO269; clear HB; have HO257 := n0_; have HO260 := n1_; have HO266 := n2_; have HO269 := n3_; have HB := n4_; clear n0_ n1_ n2_ n3_ n4_; (try clear hb); (try clear hb2); (try clear hk); (try clear hi)) | (go_at_call 71; (with_reducible refine (view_File_Span.calls k _ co20 t267 2 t273 t274 _ ?side1 ?side2 A6.out).mono ?_); (case side1 => repeat (first | exact (Kd.V_reads' HO269.out).2.2 | (with_reducible refine Kd.C_alloc ?_ _) | (with_reducible refine Kd.C_drewN ?_ _) | (with_reducible refine Kd.C_drew ?_))); (case side2 => exact (Kd.V_reads' HO269.out).2.1); rintro e w23 ⟨rfl, hb⟩; have n0_ := Aside0.mk (Kd.R_below (go_R HO257.out) hb); have n1_ := Aside0.mk (Kd.V_below (go_V HO260.out) hb); have n2_ := Aside0.mk (Kd.N_below (go_N HO266.out) hb); have n3_ := Aside0.mk (Kd.V_below (go_V HO269.out) hb); have n4_ := Aside0.mk (below_step (go_b HB.out) hb); clear HO257; clear HO260; clear HO266; clear HO269; clear HB; have HO257 := n0_; have HO260 := n1_; have HO266 := n2_; have HO269 := n3_; have HB := n4_; clear n0_ n1_ n2_ n3_ n4_; (try clear hb); (try clear hb2); (try clear hk); (try clear hi)))
   go_ret
   exact ⟨by first | rfl | (simp [*, errW_none, errW_some, erT_no, erV_no, erT_at, erV_at] <;> rfl), by repeat (first | (with_reducible first | exact HB.out | apply below_alloc | apply pw_below_drewN | apply below_drew1) | exact HB.out)⟩
  ·rw [if_neg c5] at H
   exact absurd H (by simp)
 ·rw [if_neg c3] at H
  exact absurd H (by simp)

end Go.Proofs.YtnpgadfoohjlnaaDoor.QV
