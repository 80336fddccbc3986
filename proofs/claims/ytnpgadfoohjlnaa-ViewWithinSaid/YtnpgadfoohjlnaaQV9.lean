/- Where a Lean function of this text answers, the Go function of its name comes to that answer: no other condition. Written by a program of this session out of the translation; Lean checks it. -/
import Derived.Test.YtnpgadfoohjlnaaQV0
import Derived.Test.YtnpgadfoohjlnaaQV1
import Derived.Test.YtnpgadfoohjlnaaQV4
import Derived.Test.YtnpgadfoohjlnaaQV5
import Derived.Test.YtnpgadfoohjlnaaQV6
import Derived.Test.YtnpgadfoohjlnaaQV7
import Derived.Test.YtnpgadfoohjlnaaQV8
namespace Go.Proofs.Ytnpgadfoohjlnaa.QV
open Go.RowKit Go.Proofs.YtnpgadfoohjlnaaW.PrintWords Go.Proofs.YtnpgadfoohjlnaaW.PrintLast Go.Proofs.YtnpgadfoohjlnaaW.PrintMore Go.Proofs.YtnpgadfoohjlnaaW.PrintX
attribute [local go_sem] max2_int min2_int max_two min_two max_three min_three max_four min_four   -- for this text's walks alone
set_option linter.unusedVariables false
set_option linter.unusedSimpArgs false

attribute [local go_sem high] eqA40
/-! ### cavillaw15_works: function 10 -/
def cavillaw15_works.f (k : Nat)  : Option (Bool) := (view_New.f k (([97, 32, 43, 32, 98] : List Int)) (([(⟨1, 0, 1, false, 0⟩ : S38), (⟨40, 2, 3, false, 0⟩ : S38), (⟨1, 4, 5, false, 0⟩ : S38)] : List (S38))) (([(⟨2, 0, 1, ([] : List Int)⟩ : S44), (⟨2, 2, 3, ([] : List Int)⟩ : S44), (⟨66, 0, 3, (([0, 1] : List Int))⟩ : S44)] : List (S44)))).bind fun bt212 => ((view_File_Op.f k bt212.1 2).bind fun t216 => (if t216 = 40 then ((view_File_Word.f bt212.1 1).bind fun t217 => (if t217.toList = ([98] : List UInt8) then ((view_File_Span.f k bt212.1 2).bind fun bt218 => (some (bt218.1 == 0 && (bt218.2 == 5)))) else (none))) else (none)))
theorem cavillaw15_works.mono : ∀ k, LeO (cavillaw15_works.f k ) (cavillaw15_works.f (k + 1) ) := by
  intro  k
  unfold cavillaw15_works.f
  repeat' first
      | (with_reducible exact view_File_Op.mono _ _ _)
      | (with_reducible exact view_File_Span.mono _ _ _)
      | (with_reducible exact view_New.mono _ _ _ _)
      | (with_reducible exact LeO.refl _)
      | (with_reducible exact LeO.none _)
      | (with_reducible refine LeO.ite ?_ ?_)
      | (with_reducible refine LeO.bind ?_ (fun _ => ?_))
      | exact view_File_Op.mono _ _ _
      | exact view_File_Span.mono _ _ _
      | exact view_New.mono _ _ _ _
      | exact LeO.none _
      | refine LeO.ite ?_ ?_
      | refine LeO.bind ?_ (fun _ => ?_)
set_option maxHeartbeats 8000000 in
set_option maxRecDepth 100000 in
theorem cavillaw15_works.calls (k : Nat)  (r : Bool) (w : World) (h : cavillaw15_works.f k  = some r) :
    Calls Try.prog 10 #[] w fun e w' => e = .returned (.bool r) ∧ Below w.heap.size w w' := by
  have hu38 := Try.underlying38
  have hu44 := Try.underlying44
  have hu26 := Try.underlying26
  have hu40 := Try.underlying40
  have hu32 := Try.underlying32
  have hu36 := Try.underlying36
  have HB := Aside0.mk (Below.refl w.heap.size w)
  have H : ((view_New.f k (([97, 32, 43, 32, 98] : List Int)) (([(⟨1, 0, 1, false, 0⟩ : S38), (⟨40, 2, 3, false, 0⟩ : S38), (⟨1, 4, 5, false, 0⟩ : S38)] : List (S38))) (([(⟨2, 0, 1, ([] : List Int)⟩ : S44), (⟨2, 2, 3, ([] : List Int)⟩ : S44), (⟨66, 0, 3, (([0, 1] : List Int))⟩ : S44)] : List (S44)))).bind fun bt212 => ((view_File_Op.f k bt212.1 2).bind fun t216 => (if t216 = 40 then ((view_File_Word.f bt212.1 1).bind fun t217 => (if t217.toList = ([98] : List UInt8) then ((view_File_Span.f k bt212.1 2).bind fun bt218 => (some (bt218.1 == 0 && (bt218.2 == 5)))) else (none))) else (none)))) = some r := h
  clear h
  obtain ⟨y200, hy200⟩ : ∃ y_ : List (S38), y_ = (([(⟨1, 0, 1, false, 0⟩ : S38), (⟨40, 2, 3, false, 0⟩ : S38), (⟨1, 4, 5, false, 0⟩ : S38)] : List (S38))) := ⟨_, rfl⟩
  replace H : ((view_New.f k (([97, 32, 43, 32, 98] : List Int)) y200 (([(⟨2, 0, 1, ([] : List Int)⟩ : S44), (⟨2, 2, 3, ([] : List Int)⟩ : S44), (⟨66, 0, 3, (([0, 1] : List Int))⟩ : S44)] : List (S44)))).bind fun bt212 => ((view_File_Op.f k bt212.1 2).bind fun t216 => (if t216 = 40 then ((view_File_Word.f bt212.1 1).bind fun t217 => (if t217.toList = ([98] : List UInt8) then ((view_File_Span.f k bt212.1 2).bind fun bt218 => (some (bt218.1 == 0 && (bt218.2 == 5)))) else (none))) else (none)))) = some r := by first | (rw [hy200]; with_reducible exact H) | (have H2_ := (Option.bind_some _ _).symm.trans H; rw [hy200]; with_reducible exact H2_) | (have H2_ := (Option.bind_some _ _).symm.trans H; with_reducible exact H2_) | with_reducible exact H | (rw [hy200]; exact H) | exact H
  have Ny200 := Aside0.mk hy200
  clear hy200
  obtain ⟨y203, hy203⟩ : ∃ y_ : List Int, y_ = (([97, 32, 43, 32, 98] : List Int)) := ⟨_, rfl⟩
  replace H : ((view_New.f k y203 y200 (([(⟨2, 0, 1, ([] : List Int)⟩ : S44), (⟨2, 2, 3, ([] : List Int)⟩ : S44), (⟨66, 0, 3, (([0, 1] : List Int))⟩ : S44)] : List (S44)))).bind fun bt212 => ((view_File_Op.f k bt212.1 2).bind fun t216 => (if t216 = 40 then ((view_File_Word.f bt212.1 1).bind fun t217 => (if t217.toList = ([98] : List UInt8) then ((view_File_Span.f k bt212.1 2).bind fun bt218 => (some (bt218.1 == 0 && (bt218.2 == 5)))) else (none))) else (none)))) = some r := by first | (rw [hy203]; with_reducible exact H) | (have H2_ := (Option.bind_some _ _).symm.trans H; rw [hy203]; with_reducible exact H2_) | (have H2_ := (Option.bind_some _ _).symm.trans H; with_reducible exact H2_) | with_reducible exact H | (rw [hy203]; exact H) | exact H
  have Ny203 := Aside0.mk hy203
  clear hy203
  obtain ⟨y206, hy206⟩ : ∃ y_ : List Int, y_ = (([0, 1] : List Int)) := ⟨_, rfl⟩
  replace H : ((view_New.f k y203 y200 (([(⟨2, 0, 1, ([] : List Int)⟩ : S44), (⟨2, 2, 3, ([] : List Int)⟩ : S44), (⟨66, 0, 3, y206⟩ : S44)] : List (S44)))).bind fun bt212 => ((view_File_Op.f k bt212.1 2).bind fun t216 => (if t216 = 40 then ((view_File_Word.f bt212.1 1).bind fun t217 => (if t217.toList = ([98] : List UInt8) then ((view_File_Span.f k bt212.1 2).bind fun bt218 => (some (bt218.1 == 0 && (bt218.2 == 5)))) else (none))) else (none)))) = some r := by first | (rw [hy206]; with_reducible exact H) | (have H2_ := (Option.bind_some _ _).symm.trans H; rw [hy206]; with_reducible exact H2_) | (have H2_ := (Option.bind_some _ _).symm.trans H; with_reducible exact H2_) | with_reducible exact H | (rw [hy206]; exact H) | exact H
  have Ny206 := Aside0.mk hy206
  clear hy206
  obtain ⟨y209, hy209⟩ : ∃ y_ : List (S44), y_ = (([(⟨2, 0, 1, ([] : List Int)⟩ : S44), (⟨2, 2, 3, ([] : List Int)⟩ : S44), (⟨66, 0, 3, y206⟩ : S44)] : List (S44))) := ⟨_, rfl⟩
  replace H : ((view_New.f k y203 y200 y209).bind fun bt212 => ((view_File_Op.f k bt212.1 2).bind fun t216 => (if t216 = 40 then ((view_File_Word.f bt212.1 1).bind fun t217 => (if t217.toList = ([98] : List UInt8) then ((view_File_Span.f k bt212.1 2).bind fun bt218 => (some (bt218.1 == 0 && (bt218.2 == 5)))) else (none))) else (none)))) = some r := by first | (rw [hy209]; with_reducible exact H) | (have H2_ := (Option.bind_some _ _).symm.trans H; rw [hy209]; with_reducible exact H2_) | (have H2_ := (Option.bind_some _ _).symm.trans H; with_reducible exact H2_) | with_reducible exact H | (rw [hy209]; exact H) | exact H
  have Ny209 := Aside0.mk hy209
  clear hy209
  replace H := Option.bind_eq_some_iff.mp H
  obtain ⟨⟨t212, t215⟩, A10, H⟩ := H
  replace H : ((view_File_Op.f k t212 2).bind fun t216 => (if t216 = 40 then ((view_File_Word.f t212 1).bind fun t217 => (if t217.toList = ([98] : List UInt8) then ((view_File_Span.f k t212 2).bind fun bt218 => (some (bt218.1 == 0 && (bt218.2 == 5)))) else (none))) else (none))) = some r := H
  have A1 := Aside0.mk A10
  clear A10
  replace H := Option.bind_eq_some_iff.mp H
  obtain ⟨t216, A20, H⟩ := H
  replace H : (if t216 = 40 then ((view_File_Word.f t212 1).bind fun t217 => (if t217.toList = ([98] : List UInt8) then ((view_File_Span.f k t212 2).bind fun bt218 => (some (bt218.1 == 0 && (bt218.2 == 5)))) else (none))) else (none)) = some r := H
  have A2 := Aside0.mk A20
  clear A20
  by_cases c3 : t216 = 40
  · rw [if_pos c3] at H
    have c3b0 : (t216 == 40) = true := beq_iff_eq.mpr c3
    have c3b1 : (t216 != 40) = false := bne_eq_false_iff_eq.mpr c3
    clear c3
    replace H := Option.bind_eq_some_iff.mp H
    obtain ⟨t217, A40, H⟩ := H
    replace H : (if t217.toList = ([98] : List UInt8) then ((view_File_Span.f k t212 2).bind fun bt218 => (some (bt218.1 == 0 && (bt218.2 == 5)))) else (none)) = some r := H
    have A4 := Aside0.mk A40
    clear A40
    by_cases c5 : t217.toList = ([98] : List UInt8)
    · rw [if_pos c5] at H
      have c5b0 : (t217.toList == ([98] : List UInt8)) = true := beq_iff_eq.mpr c5
      have c5b1 : (t217.toList != ([98] : List UInt8)) = false := bne_eq_false_iff_eq.mpr c5
      clear c5
      replace H := Option.bind_eq_some_iff.mp H
      obtain ⟨⟨t218, t219⟩, A60, H⟩ := H
      replace H : (some (t218 == 0 && (t219 == 5))) = some r := H
      have A6 := Aside0.mk A60
      clear A60
      obtain rfl := Option.some.inj H
      go_enter Try.func10, Try.ntmps10
      go_wp2_with (first | ((with_reducible refine gate_dst (N := 7) rfl ?_); refine Kd.R_lit k38 _ 38 ?hg (N := 7) ?hd (xs := ([(⟨1, 0, 1, false, 0⟩ : S38), (⟨40, 2, 3, false, 0⟩ : S38), (⟨1, 4, 5, false, 0⟩ : S38)] : List (S38))) (inner := [.int .i64 1, .int .i64 0, .int .i64 1, .bool false, .int .i64 0, .int .i64 40, .int .i64 2, .int .i64 3, .bool false, .int .i64 0, .int .i64 1, .int .i64 4, .int .i64 5, .bool false, .int .i64 0]) (ok := fun _ => True) (okp := fun _ => True) ?hr ?hp (fun _ hk => hk) trivial (Below.refl _ _) (Nat.le_refl _) (by simp) ?_; (case hd => rfl); (case hg => rfl); (case hr => first | (go_simp; done) | (go_simp; rfl)); (case hp => exact (Reps.c5 (show Kd.M k38 _ _ _ (⟨1, 0, 1, false, 0⟩ : S38) [.int .i64 1, .int .i64 0, .int .i64 1, .bool false, .int .i64 0] from (k38_mkM _ _ _ (⟨1, 0, 1, false, 0⟩ : S38) )) (Reps.c5 (show Kd.M k38 _ _ _ (⟨40, 2, 3, false, 0⟩ : S38) [.int .i64 40, .int .i64 2, .int .i64 3, .bool false, .int .i64 0] from (k38_mkM _ _ _ (⟨40, 2, 3, false, 0⟩ : S38) )) (Reps.c5 (show Kd.M k38 _ _ _ (⟨1, 4, 5, false, 0⟩ : S38) [.int .i64 1, .int .i64 4, .int .i64 5, .bool false, .int .i64 0] from (k38_mkM _ _ _ (⟨1, 4, 5, false, 0⟩ : S38) )) (Reps.none _ _))))); intro v201 w7 ho8 hb hg_ hnew_; clear hg_ hnew_; (first | rw [← Ny200.out] at ho8 | (simp only [Int.reduceToNat] at ho8; rw [← Ny200.out] at ho8)); have n0_ := Aside0.mk (Kd.R_lower ho8 (below_size (by repeat (first | (with_reducible first | exact HB.out | apply below_alloc | apply pw_below_drewN | apply below_drew1) | exact HB.out)))); have n1_ := Aside0.mk (below_step (by repeat (first | (with_reducible first | exact HB.out | apply below_alloc | apply pw_below_drewN | apply below_drew1) | exact HB.out)) hb); clear HB; have HO202 := n0_; have HB := n1_; clear n0_ n1_; clear hb ho8) | ((with_reducible refine gate_dst (N := 9) rfl ?_); refine Kd.V_const _ 5 rfl (N := 9) rfl rfl ([97, 32, 43, 32, 98] : List Int) 22 _ ?hr rfl (fun _ => rfl) Try.underlying22 Try.underlying5 (by decide) (Below.refl _ _) (Nat.le_refl _) ?_; (case hr => first | (go_simp; done) | (go_simp; rfl)); intro v204 w9 ho10 hb hg_ hnew_; clear hg_ hnew_; (first | rw [← Ny203.out] at ho10 | (simp only [Int.reduceToNat] at ho10; rw [← Ny203.out] at ho10)); have n0_ := Aside0.mk (Kd.R_below (by (with_reducible repeat (first | apply Kd.R_alloc | apply Kd.R_drewN | apply Kd.R_drew)); exact HO202.out) hb); have n1_ := Aside0.mk (Kd.V_lower (Kd.V_mono (ok' := fun k_ => some k_ ≠ (v201 : Value).ownBlock) ho10 (fun k_ hk_ => (Kd.fresh' (Kd.R_lt (by (with_reducible repeat (first | apply Kd.R_alloc | apply Kd.R_drewN | apply Kd.R_drew)); exact HO202.out)) k_ hk_))) (below_size (by repeat (first | (with_reducible first | exact HB.out | apply below_alloc | apply pw_below_drewN | apply below_drew1) | exact HB.out)))); have n2_ := Aside0.mk (below_step (by repeat (first | (with_reducible first | exact HB.out | apply below_alloc | apply pw_below_drewN | apply below_drew1) | exact HB.out)) hb); clear HO202; clear HB; have HO202 := n0_; have HO205 := n1_; have HB := n2_; clear n0_ n1_ n2_; clear hb ho10) | ((with_reducible refine gate_dst (N := 14) rfl ?_); refine Kd.R_lit (Kd.int .i64) _ 3 ?hg (N := 14) ?hd (xs := ([0, 1] : List Int)) (inner := [.int .i64 0, .int .i64 1]) (ok := fun _ => True) (okp := fun _ => True) ?hr ?hp (fun _ hk => hk) trivial (Below.refl _ _) (Nat.le_refl _) (by simp) ?_; (case hd => rfl); (case hg => rfl); (case hr => first | (go_simp; done) | (go_simp; rfl)); (case hp => exact (Reps.one (show Kd.M (Kd.int .i64) _ _ _ 0 [.int .i64 0] from rfl) (Reps.one (show Kd.M (Kd.int .i64) _ _ _ 1 [.int .i64 1] from rfl) (Reps.none _ _)))); intro v207 w11 ho12 hb hg_ hnew_; clear hg_ hnew_; (first | rw [← Ny206.out] at ho12 | (simp only [Int.reduceToNat] at ho12; rw [← Ny206.out] at ho12)); have n0_ := Aside0.mk (Kd.R_below (by (with_reducible repeat (first | apply Kd.R_alloc | apply Kd.R_drewN | apply Kd.R_drew)); exact HO202.out) hb); have n1_ := Aside0.mk (Kd.V_elder' (by (with_reducible repeat (first | apply Kd.V_alloc | apply Kd.V_drewN | apply Kd.V_drew)); exact HO205.out) (Kd.R_base ho12) hb); have n2_ := Aside0.mk (Kd.R_lower ho12 (below_size (by repeat (first | (with_reducible first | exact HB.out | apply below_alloc | apply pw_below_drewN | apply below_drew1) | exact HB.out)))); have n3_ := Aside0.mk (below_step (by repeat (first | (with_reducible first | exact HB.out | apply below_alloc | apply pw_below_drewN | apply below_drew1) | exact HB.out)) hb); clear HO202; clear HO205; clear HB; have HO202 := n0_; have HO205 := n1_; have HO208 := n2_; have HB := n3_; clear n0_ n1_ n2_ n3_; clear hb ho12; obtain ⟨Ao13, co13, eo13⟩ := Kd.R_slice HO208.out; subst eo13) | ((with_reducible refine gate_dst (N := 16) rfl ?_); refine Kd.N_lit k44 _ 44 ?hg (N' := 16) ?hd (xs := ([(⟨2, 0, 1, ([] : List Int)⟩ : S44), (⟨2, 2, 3, ([] : List Int)⟩ : S44), (⟨66, 0, 3, y206⟩ : S44)] : List (S44))) (inner := [.int .i64 2, .int .i64 0, .int .i64 1, .slice none 0 0, .int .i64 2, .int .i64 2, .int .i64 3, .slice none 0 0, .int .i64 66, .int .i64 0, .int .i64 3, .slice Ao13 y206.length co13]) (ok := (fun k_ => some k_ ≠ (v201 : Value).ownBlock)) (okp := (fun k_ => some k_ ≠ (v201 : Value).ownBlock)) ?hr ?hp (fun _ hk => hk) ((show ∀ k_, w11.heap.size ≤ k_ → (fun k_ => some k_ ≠ (v201 : Value).ownBlock) k_ from fun k_ hk => Kd.fresh' (Kd.R_lt (by (with_reducible repeat (first | apply Kd.R_alloc | apply Kd.R_drewN | apply Kd.R_drew)); exact HO202.out)) k_ hk) _ (Nat.le_refl _)) (Below.refl _ _) (Nat.le_refl _) (by simp) ?_; (case hd => rfl); (case hg => rfl); (case hr => first | (go_simp; done) | (go_simp; rfl)); (case hp => exact (Reps.c4 (show Kd.FK k44 _ _ (⟨2, 0, 1, ([] : List Int)⟩ : S44) [.int .i64 2, .int .i64 0, .int .i64 1, .slice none 0 0] from (k44_mkF _ _ (⟨2, 0, 1, ([] : List Int)⟩ : S44) (Nat.le_refl _) (Kd.F_nil _ _ _))) (Reps.c4 (show Kd.FK k44 _ _ (⟨2, 2, 3, ([] : List Int)⟩ : S44) [.int .i64 2, .int .i64 2, .int .i64 3, .slice none 0 0] from (k44_mkF _ _ (⟨2, 2, 3, ([] : List Int)⟩ : S44) (Nat.le_refl _) (Kd.F_nil _ _ _))) (Reps.c4 (show Kd.FK k44 _ _ (⟨66, 0, 3, y206⟩ : S44) [.int .i64 66, .int .i64 0, .int .i64 3, .slice Ao13 y206.length co13] from (k44_mkF _ _ (⟨66, 0, 3, y206⟩ : S44) (Kd.R_reads' (Kd.R_mono (ok' := (fun k_ => some k_ ≠ (v201 : Value).ownBlock)) (Kd.R_apart' (HO208.out) (Kd.R_typed HO202.out) (by decide)) (fun k_ hk => hk.2))).2.1 (Kd.R_F (Kd.R_mono (ok' := (fun k_ => some k_ ≠ (v201 : Value).ownBlock)) (Kd.R_apart' (HO208.out) (Kd.R_typed HO202.out) (by decide)) (fun k_ hk => hk.2))))) (Reps.none _ _))))); intro v210 w14 ho15 hb hg_ hnew_; clear hg_ hnew_; (first | rw [← Ny209.out] at ho15 | (simp only [Int.reduceToNat] at ho15; rw [← Ny209.out] at ho15)); have n0_ := Aside0.mk (Kd.R_below (by (with_reducible repeat (first | apply Kd.R_alloc | apply Kd.R_drewN | apply Kd.R_drew)); exact HO202.out) hb); have n1_ := Aside0.mk (Kd.V_elder' (by (with_reducible repeat (first | apply Kd.V_alloc | apply Kd.V_drewN | apply Kd.V_drew)); exact HO205.out) (Kd.N_base ho15) hb); have n2_ := Aside0.mk (Kd.N_lower ho15 (below_size (by repeat (first | (with_reducible first | exact HB.out | apply below_alloc | apply pw_below_drewN | apply below_drew1) | exact HB.out)))); have n3_ := Aside0.mk (below_step (by repeat (first | (with_reducible first | exact HB.out | apply below_alloc | apply pw_below_drewN | apply below_drew1) | exact HB.out)) hb); clear HO202; clear HO205; clear HB; clear HO208; have HO202 := n0_; have HO205 := n1_; have HO211 := n2_; have HB := n3_; clear n0_ n1_ n2_ n3_; clear hb ho15; obtain ⟨Ao16, co16, eo16⟩ := Kd.N_slice HO211.out; subst eo16; obtain ⟨Ao17, co17, eo17⟩ := Kd.V_slice HO205.out; subst eo17; obtain ⟨Ao18, co18, eo18⟩ := Kd.R_slice HO202.out; subst eo18) | ((with_reducible refine gate_callee (f := 9) rfl ?_); refine goesL_ (some 18) rfl rfl Try.func9 (by kernel_rfl) rfl #[.slice Ao17 y203.length co17, .slice Ao18 y200.length co18, .agg #[.slice Ao16 y209.length co16]] rfl (by (try simp only [List.map_toArray, List.map_cons, List.map_nil]); first | done | rfl | (simp only [List.length_drop, List.length_take]; rfl)) ?_; (with_reducible refine (view_New.calls k (fun k_ => (some k_ ≠ (.slice Ao18 y200.length co18 : Value).ownBlock ∧ some k_ ≠ (.slice Ao16 y209.length co16 : Value).ownBlock)) _ _ y203 (fun k_ => some k_ = (.slice Ao18 y200.length co18 : Value).ownBlock) _ _ y200 (fun k_ => some k_ ≠ (.slice Ao18 y200.length co18 : Value).ownBlock) _ _ y209 t212 t215 _ ?side1 ?side2 ?side3 A1.out).mono ?_); (case side1 => exact Kd.V_mono (ok' := fun k_ => (some k_ ≠ (.slice Ao18 y200.length co18 : Value).ownBlock ∧ some k_ ≠ (.slice Ao16 y209.length co16 : Value).ownBlock)) (HO205.out) (fun k_ hk_ => ⟨hk_.1.1, hk_.2⟩)); (case side2 => exact Kd.R_V (Kd.R_tight rfl (Kd.R_apart' (HO202.out) (Kd.N_typed HO211.out) (by decide)))); (case side3 => exact Kd.N_V (HO211.out)); rintro e w19 ⟨v213, rfl, ho0, hb⟩; refine ⟨_, rfl, ?_⟩; have n0_ := Aside0.mk (Kd.R_below (by (with_reducible repeat (first | apply Kd.R_alloc | apply Kd.R_drewN | apply Kd.R_drew)); exact HO202.out) hb); have n1_ := Aside0.mk (Kd.V_below (by (with_reducible repeat (first | apply Kd.V_alloc | apply Kd.V_drewN | apply Kd.V_drew)); exact HO205.out) hb); have n2_ := Aside0.mk (Kd.N_below (by (with_reducible repeat (first | apply Kd.N_alloc | apply Kd.N_drewN | apply Kd.N_drew)); exact HO211.out) hb); have n3_ := Aside0.mk (Kd.V_lower (Kd.V_mono (ok' := fun k_ => True) ho0 (fun k_ hk_ => trivial)) (below_size (by repeat (first | (with_reducible first | exact HB.out | apply below_alloc | apply pw_below_drewN | apply below_drew1) | exact HB.out)))); have n4_ := Aside0.mk (below_step (by repeat (first | (with_reducible first | exact HB.out | apply below_alloc | apply pw_below_drewN | apply below_drew1) | exact HB.out)) hb); clear HO202; clear HO205; clear HO211; clear HB; have HO202 := n0_; have HO205 := n1_; have HO211 := n2_; have HO214 := n3_; have HB := n4_; clear n0_ n1_ n2_ n3_ n4_; (try clear hb); (try clear hb2); (try clear hk); (try clear hi); (try clear ho0); (try simp only [errW_none, errW_some, erT_no, erV_no, erT_at, erV_at]); obtain ⟨ado20, co20, eo20⟩ := view_New.open HO214.out A1.out; subst eo20; (try simp only [view_New.ptr])) | (go_at_call 13; (with_reducible refine (view_File_Op.calls k _ co20 t212 2 t216 _ ?side1 ?side2 A2.out).mono ?_); (case side1 => repeat (first | exact (Kd.V_reads' HO214.out).2.2 | (with_reducible refine Kd.C_alloc ?_ _) | (with_reducible refine Kd.C_drewN ?_ _) | (with_reducible refine Kd.C_drew ?_))); (case side2 => exact (Kd.V_reads' HO214.out).2.1); rintro e w21 ⟨rfl, hb⟩; have n0_ := Aside0.mk (Kd.R_below (by (with_reducible repeat (first | apply Kd.R_alloc | apply Kd.R_drewN | apply Kd.R_drew)); exact HO202.out) hb); have n1_ := Aside0.mk (Kd.V_below (by (with_reducible repeat (first | apply Kd.V_alloc | apply Kd.V_drewN | apply Kd.V_drew)); exact HO205.out) hb); have n2_ := Aside0.mk (Kd.N_below (by (with_reducible repeat (first | apply Kd.N_alloc | apply Kd.N_drewN | apply Kd.N_drew)); exact HO211.out) hb); have n3_ := Aside0.mk (Kd.V_below (by (with_reducible repeat (first | apply Kd.V_alloc | apply Kd.V_drewN | apply Kd.V_drew)); exact HO214.out) hb); have n4_ := Aside0.mk (below_step (by repeat (first | (with_reducible first | exact HB.out | apply below_alloc | apply pw_below_drewN | apply below_drew1) | exact HB.out)) hb); clear HO202; clear HO205; clear HO211; clear HO214; clear HB; have HO202 := n0_; have HO205 := n1_; have HO211 := n2_; have HO214 := n3_; have HB := n4_; clear n0_ n1_ n2_ n3_ n4_; (try clear hb); (try clear hb2); (try clear hk); (try clear hi)) | (go_at_call 36; (with_reducible refine (view_File_Word.calls _ co20 t212 1 t217 _ ?side1 ?side2 A4.out).mono ?_); (case side1 => repeat (first | exact (Kd.V_reads' HO214.out).2.2 | (with_reducible refine Kd.C_alloc ?_ _) | (with_reducible refine Kd.C_drewN ?_ _) | (with_reducible refine Kd.C_drew ?_))); (case side2 => exact (Kd.V_reads' HO214.out).2.1); rintro e w22 ⟨rfl, hb⟩; have n0_ := Aside0.mk (Kd.R_below (by (with_reducible repeat (first | apply Kd.R_alloc | apply Kd.R_drewN | apply Kd.R_drew)); exact HO202.out) hb); have n1_ := Aside0.mk (Kd.V_below (by (with_reducible repeat (first | apply Kd.V_alloc | apply Kd.V_drewN | apply Kd.V_drew)); exact HO205.out) hb); have n2_ := Aside0.mk (Kd.N_below (by (with_reducible repeat (first | apply Kd.N_alloc | apply Kd.N_drewN | apply Kd.N_drew)); exact HO211.out) hb); have n3_ := Aside0.mk (Kd.V_below (by (with_reducible repeat (first | apply Kd.V_alloc | apply Kd.V_drewN | apply Kd.V_drew)); exact HO214.out) hb); have n4_ := Aside0.mk (below_step (by repeat (first | (with_reducible first | exact HB.out | apply below_alloc | apply pw_below_drewN | apply below_drew1) | exact HB.out)) hb); clear HO202; clear HO205; clear HO211; clear HO214; clear HB; have HO202 := n0_; have HO205 := n1_; have HO211 := n2_; have HO214 := n3_; have HB := n4_; clear n0_ n1_ n2_ n3_ n4_; (try clear hb); (try clear hb2); (try clear hk); (try clear hi)) | (go_at_call 11; (with_reducible refine (view_File_Span.calls k _ co20 t212 2 t218 t219 _ ?side1 ?side2 A6.out).mono ?_); (case side1 => repeat (first | exact (Kd.V_reads' HO214.out).2.2 | (with_reducible refine Kd.C_alloc ?_ _) | (with_reducible refine Kd.C_drewN ?_ _) | (with_reducible refine Kd.C_drew ?_))); (case side2 => exact (Kd.V_reads' HO214.out).2.1); rintro e w23 ⟨rfl, hb⟩; have n0_ := Aside0.mk (Kd.R_below (by (with_reducible repeat (first | apply Kd.R_alloc | apply Kd.R_drewN | apply Kd.R_drew)); exact HO202.out) hb); have n1_ := Aside0.mk (Kd.V_below (by (with_reducible repeat (first | apply Kd.V_alloc | apply Kd.V_drewN | apply Kd.V_drew)); exact HO205.out) hb); have n2_ := Aside0.mk (Kd.N_below (by (with_reducible repeat (first | apply Kd.N_alloc | apply Kd.N_drewN | apply Kd.N_drew)); exact HO211.out) hb); have n3_ := Aside0.mk (Kd.V_below (by (with_reducible repeat (first | apply Kd.V_alloc | apply Kd.V_drewN | apply Kd.V_drew)); exact HO214.out) hb); have n4_ := Aside0.mk (below_step (by repeat (first | (with_reducible first | exact HB.out | apply below_alloc | apply pw_below_drewN | apply below_drew1) | exact HB.out)) hb); clear HO202; clear HO205; clear HO211; clear HO214; clear HB; have HO202 := n0_; have HO205 := n1_; have HO211 := n2_; have HO214 := n3_; have HB := n4_; clear n0_ n1_ n2_ n3_ n4_; (try clear hb); (try clear hb2); (try clear hk); (try clear hi)))
      go_ret
      exact ⟨by first | rfl | (simp [errW_none, errW_some, erT_no, erV_no, erT_at, erV_at] <;> rfl) | (simp [*, errW_none, errW_some, erT_no, erV_no, erT_at, erV_at] <;> rfl), by repeat (first | (with_reducible first | exact HB.out | apply below_alloc | apply pw_below_drewN | apply below_drew1) | exact HB.out)⟩
    · rw [if_neg c5] at H
      exact absurd H (by simp)
  · rw [if_neg c3] at H
    exact absurd H (by simp)

/-! ### view_File_Kid: function 12 -/
def view_File_Kid.f (l0 : List (S72)) (a1 : Int) (a2 : Int) : Option (Int) := if 0 < (l0.length : Int) then ((view_File_Node.f l0 a1).bind fun bt221 => (if a2 < 0 then (some (-1)) else (if a2 ≥ (bt221.2.2.2.length : Int) then (some (-1)) else (if 0 ≤ a2 then (if a2 < (bt221.2.2.2.length : Int) then (some (rd bt221.2.2.2 a2)) else (none)) else (none))))) else (none)
set_option maxHeartbeats 8000000 in
set_option maxRecDepth 100000 in
theorem view_File_Kid.calls (A0 : Option Addr) (c0 : Nat) (l0 : List (S72)) (a1 : Int) (a2 : Int) (r : Int) (w : World) (hr0 : Kd.C k72 w A0 l0.length l0) (hc0 : l0.length ≤ c0) (h : view_File_Kid.f l0 a1 a2 = some r) :
    Calls Try.prog 12 #[.pointer A0, .int .i64 a1, .int .i64 a2] w fun e w' => e = .returned (.int .i64 r) ∧ Below w.heap.size w w' := by
  have hu44 := Try.underlying44
  have hfd44_3 : ∀ (c0_ c1_ c2_ c3_ : Value) (W_ : World), (Instr.field 44 (.agg #[c0_, c1_, c2_, c3_]) 3).run Try.prog W_ = .ok (c3_) W_ := fun _ _ _ _ _ => by kernel_rfl
  have HR0 := Aside0.mk hr0
  have HC0 := Aside0.mk hc0
  clear hr0 hc0
  have HB := Aside0.mk (Below.refl w.heap.size w)
  have H : (if 0 < (l0.length : Int) then ((view_File_Node.f l0 a1).bind fun bt221 => (if a2 < 0 then (some (-1)) else (if a2 ≥ (bt221.2.2.2.length : Int) then (some (-1)) else (if 0 ≤ a2 then (if a2 < (bt221.2.2.2.length : Int) then (some (rd bt221.2.2.2 a2)) else (none)) else (none))))) else (none)) = some r := h
  clear h
  by_cases c4 : 0 < (l0.length : Int)
  · rw [if_pos c4] at H
    have c4b0 : decide (0 < (l0.length : Int)) = true := decide_eq_true c4
    have c4b1 : decide (0 < l0.length) = true := decide_eq_true (by omega)
    clear c4
    replace H := Option.bind_eq_some_iff.mp H
    obtain ⟨⟨t221, t222, t223, t224⟩, A50, H⟩ := H
    replace H : (if a2 < 0 then (some (-1)) else (if a2 ≥ (t224.length : Int) then (some (-1)) else (if 0 ≤ a2 then (if a2 < (t224.length : Int) then (some (rd t224 a2)) else (none)) else (none)))) = some r := H
    have A5 := Aside0.mk A50
    clear A50
    by_cases c6 : a2 < 0
    · rw [if_pos c6] at H
      have c6b0 : decide (a2 < 0) = true := decide_eq_true c6
      clear c6
      obtain rfl := Option.some.inj H
      have p220 : 0 ≤ (0 : Int) := (by omega)
      have q220 : 0 < (l0.length : Int) := of_decide_eq_true (by first | (with_reducible assumption) | assumption)
      obtain ⟨ad220, A220_0, c220_0, A220_1, c220_1, A220_2, c220_2, e220, hx220_0, hx220_1, hx220_2, hl220_0, hi220_0, hl220_1, hi220_1, hl220_2, hi220_2⟩ := at_T72 HR0.out 0 p220 q220
      cases e220
      have qi220 : (0 < l0.length) = True := eq_true (by omega)
      (try rw [show ((0 : Int)).toNat = 0 from rfl] at hx220_0)
      (try rw [show 0 * 3 = 0 from rfl] at hx220_0)
      (try rw [Addr.add_zero'] at hx220_0)
      (try rw [show ((0 : Int)).toNat = 0 from rfl] at hx220_1)
      (try rw [show 0 * 3 = 0 from rfl] at hx220_1)
      (try rw [Addr.add_zero'] at hx220_1)
      (try rw [show ((0 : Int)).toNat = 0 from rfl] at hx220_2)
      (try rw [show 0 * 3 = 0 from rfl] at hx220_2)
      (try rw [Addr.add_zero'] at hx220_2)
      have HR220_0 := Aside0.mk hi220_0
      have HC220_0 := Aside0.mk hl220_0
      clear hi220_0 hl220_0
      have HR220_1 := Aside0.mk hi220_1
      have HC220_1 := Aside0.mk hl220_1
      clear hi220_1 hl220_1
      have HR220_2 := Aside0.mk hi220_2
      have HC220_2 := Aside0.mk hl220_2
      clear hi220_2 hl220_2
      replace p220 := eq_true p220
      replace q220 := eq_true q220
      go_enter Try.func12, Try.ntmps12
      go_wp2_with (first | ((with_reducible refine gate_callee (f := 37) rfl ?_); refine goesL_ (some 10) rfl rfl Try.func37 (by kernel_rfl) rfl #[.pointer (some ad220), .int .i64 a1] rfl (by (try simp only [List.map_toArray, List.map_cons, List.map_nil]); first | done | rfl | (simp only [List.length_drop, List.length_take]; rfl)) ?_; (with_reducible refine (view_File_Node.calls (fun k_ => k_ < w.heap.size) _ c0 l0 a1 t221 t222 t223 t224 _ ?side1 A5.out).mono ?_); (case side1 => exact Kd.V_mk HC0.out (Kd.F_below (Kd.C_F k72_heap HR0.out) (by repeat (first | (with_reducible first | exact HB.out | apply below_alloc | apply pw_below_drewN | apply below_drew1) | exact HB.out)))); rintro e w7 ⟨v225, rfl, ho0, hb⟩; refine ⟨_, rfl, ?_⟩; have n0_ := Aside0.mk (Kd.V_lower (Kd.V_mono (ok' := fun k_ => True) ho0 (fun k_ hk_ => trivial)) (below_size (by repeat (first | (with_reducible first | exact HB.out | apply below_alloc | apply pw_below_drewN | apply below_drew1) | exact HB.out)))); have n1_ := Aside0.mk (below_step (by repeat (first | (with_reducible first | exact HB.out | apply below_alloc | apply pw_below_drewN | apply below_drew1) | exact HB.out)) hb); clear HB; have HO226 := n0_; have HB := n1_; clear n0_ n1_; (try clear hb); (try clear hb2); (try clear hk); (try clear hi); (try clear ho0)))
      go_ret
      exact ⟨by first | rfl | (simp [errW_none, errW_some, erT_no, erV_no, erT_at, erV_at] <;> rfl) | (simp [*, errW_none, errW_some, erT_no, erV_no, erT_at, erV_at] <;> rfl), by repeat (first | (with_reducible first | exact HB.out | apply below_alloc | apply pw_below_drewN | apply below_drew1) | exact HB.out)⟩
    · rw [if_neg c6] at H
      have c6b0 : decide (a2 < 0) = false := decide_eq_false c6
      clear c6
      by_cases c8 : a2 ≥ (t224.length : Int)
      · rw [if_pos c8] at H
        have c8b0 : decide ((t224.length : Int) ≤ a2) = true := decide_eq_true c8
        clear c8
        obtain rfl := Option.some.inj H
        have p220 : 0 ≤ (0 : Int) := (by omega)
        have q220 : 0 < (l0.length : Int) := of_decide_eq_true (by first | (with_reducible assumption) | assumption)
        obtain ⟨ad220, A220_0, c220_0, A220_1, c220_1, A220_2, c220_2, e220, hx220_0, hx220_1, hx220_2, hl220_0, hi220_0, hl220_1, hi220_1, hl220_2, hi220_2⟩ := at_T72 HR0.out 0 p220 q220
        cases e220
        have qi220 : (0 < l0.length) = True := eq_true (by omega)
        (try rw [show ((0 : Int)).toNat = 0 from rfl] at hx220_0)
        (try rw [show 0 * 3 = 0 from rfl] at hx220_0)
        (try rw [Addr.add_zero'] at hx220_0)
        (try rw [show ((0 : Int)).toNat = 0 from rfl] at hx220_1)
        (try rw [show 0 * 3 = 0 from rfl] at hx220_1)
        (try rw [Addr.add_zero'] at hx220_1)
        (try rw [show ((0 : Int)).toNat = 0 from rfl] at hx220_2)
        (try rw [show 0 * 3 = 0 from rfl] at hx220_2)
        (try rw [Addr.add_zero'] at hx220_2)
        have HR220_0 := Aside0.mk hi220_0
        have HC220_0 := Aside0.mk hl220_0
        clear hi220_0 hl220_0
        have HR220_1 := Aside0.mk hi220_1
        have HC220_1 := Aside0.mk hl220_1
        clear hi220_1 hl220_1
        have HR220_2 := Aside0.mk hi220_2
        have HC220_2 := Aside0.mk hl220_2
        clear hi220_2 hl220_2
        replace p220 := eq_true p220
        replace q220 := eq_true q220
        go_enter Try.func12, Try.ntmps12
        go_wp2_with (first | ((with_reducible refine gate_callee (f := 37) rfl ?_); refine goesL_ (some 10) rfl rfl Try.func37 (by kernel_rfl) rfl #[.pointer (some ad220), .int .i64 a1] rfl (by (try simp only [List.map_toArray, List.map_cons, List.map_nil]); first | done | rfl | (simp only [List.length_drop, List.length_take]; rfl)) ?_; (with_reducible refine (view_File_Node.calls (fun k_ => k_ < w.heap.size) _ c0 l0 a1 t221 t222 t223 t224 _ ?side1 A5.out).mono ?_); (case side1 => exact Kd.V_mk HC0.out (Kd.F_below (Kd.C_F k72_heap HR0.out) (by repeat (first | (with_reducible first | exact HB.out | apply below_alloc | apply pw_below_drewN | apply below_drew1) | exact HB.out)))); rintro e w9 ⟨v225, rfl, ho0, hb⟩; refine ⟨_, rfl, ?_⟩; have n0_ := Aside0.mk (Kd.V_lower (Kd.V_mono (ok' := fun k_ => True) ho0 (fun k_ hk_ => trivial)) (below_size (by repeat (first | (with_reducible first | exact HB.out | apply below_alloc | apply pw_below_drewN | apply below_drew1) | exact HB.out)))); have n1_ := Aside0.mk (below_step (by repeat (first | (with_reducible first | exact HB.out | apply below_alloc | apply pw_below_drewN | apply below_drew1) | exact HB.out)) hb); clear HB; have HO226 := n0_; have HB := n1_; clear n0_ n1_; (try clear hb); (try clear hb2); (try clear hk); (try clear hi); (try clear ho0); obtain ⟨Ao10, co10, eo10⟩ := Kd.V_slice HO226.out; subst eo10))
        go_ret
        exact ⟨by first | rfl | (simp [errW_none, errW_some, erT_no, erV_no, erT_at, erV_at] <;> rfl) | (simp [*, errW_none, errW_some, erT_no, erV_no, erT_at, erV_at] <;> rfl), by repeat (first | (with_reducible first | exact HB.out | apply below_alloc | apply pw_below_drewN | apply below_drew1) | exact HB.out)⟩
      · rw [if_neg c8] at H
        have c8b0 : decide ((t224.length : Int) ≤ a2) = false := decide_eq_false c8
        clear c8
        by_cases c11 : 0 ≤ a2
        · rw [if_pos c11] at H
          have c11b0 : decide (0 ≤ a2) = true := decide_eq_true c11
          clear c11
          by_cases c12 : a2 < (t224.length : Int)
          · rw [if_pos c12] at H
            have c12b0 : decide (a2 < (t224.length : Int)) = true := decide_eq_true c12
            clear c12
            obtain rfl := Option.some.inj H
            have p220 : 0 ≤ (0 : Int) := (by omega)
            have q220 : 0 < (l0.length : Int) := of_decide_eq_true (by first | (with_reducible assumption) | assumption)
            obtain ⟨ad220, A220_0, c220_0, A220_1, c220_1, A220_2, c220_2, e220, hx220_0, hx220_1, hx220_2, hl220_0, hi220_0, hl220_1, hi220_1, hl220_2, hi220_2⟩ := at_T72 HR0.out 0 p220 q220
            cases e220
            have qi220 : (0 < l0.length) = True := eq_true (by omega)
            (try rw [show ((0 : Int)).toNat = 0 from rfl] at hx220_0)
            (try rw [show 0 * 3 = 0 from rfl] at hx220_0)
            (try rw [Addr.add_zero'] at hx220_0)
            (try rw [show ((0 : Int)).toNat = 0 from rfl] at hx220_1)
            (try rw [show 0 * 3 = 0 from rfl] at hx220_1)
            (try rw [Addr.add_zero'] at hx220_1)
            (try rw [show ((0 : Int)).toNat = 0 from rfl] at hx220_2)
            (try rw [show 0 * 3 = 0 from rfl] at hx220_2)
            (try rw [Addr.add_zero'] at hx220_2)
            have HR220_0 := Aside0.mk hi220_0
            have HC220_0 := Aside0.mk hl220_0
            clear hi220_0 hl220_0
            have HR220_1 := Aside0.mk hi220_1
            have HC220_1 := Aside0.mk hl220_1
            clear hi220_1 hl220_1
            have HR220_2 := Aside0.mk hi220_2
            have HC220_2 := Aside0.mk hl220_2
            clear hi220_2 hl220_2
            replace p220 := eq_true p220
            replace q220 := eq_true q220
            go_enter Try.func12, Try.ntmps12
            go_wp2_with (first | ((with_reducible refine gate_callee (f := 37) rfl ?_); refine goesL_ (some 10) rfl rfl Try.func37 (by kernel_rfl) rfl #[.pointer (some ad220), .int .i64 a1] rfl (by (try simp only [List.map_toArray, List.map_cons, List.map_nil]); first | done | rfl | (simp only [List.length_drop, List.length_take]; rfl)) ?_; (with_reducible refine (view_File_Node.calls (fun k_ => k_ < w.heap.size) _ c0 l0 a1 t221 t222 t223 t224 _ ?side1 A5.out).mono ?_); (case side1 => exact Kd.V_mk HC0.out (Kd.F_below (Kd.C_F k72_heap HR0.out) (by repeat (first | (with_reducible first | exact HB.out | apply below_alloc | apply pw_below_drewN | apply below_drew1) | exact HB.out)))); rintro e w13 ⟨v225, rfl, ho0, hb⟩; refine ⟨_, rfl, ?_⟩; have n0_ := Aside0.mk (Kd.V_lower (Kd.V_mono (ok' := fun k_ => True) ho0 (fun k_ hk_ => trivial)) (below_size (by repeat (first | (with_reducible first | exact HB.out | apply below_alloc | apply pw_below_drewN | apply below_drew1) | exact HB.out)))); have n1_ := Aside0.mk (below_step (by repeat (first | (with_reducible first | exact HB.out | apply below_alloc | apply pw_below_drewN | apply below_drew1) | exact HB.out)) hb); clear HB; have HO226 := n0_; have HB := n1_; clear n0_ n1_; (try clear hb); (try clear hb2); (try clear hk); (try clear hi); (try clear ho0); obtain ⟨Ao14, co14, eo14⟩ := Kd.V_slice HO226.out; subst eo14; have p227 : 0 ≤ (a2 : Int) := of_decide_eq_true (by first | (with_reducible assumption) | assumption); have q227 : a2 < (t224.length : Int) := of_decide_eq_true (by first | (with_reducible assumption) | assumption); obtain ⟨ad227, e227, hx227_0⟩ := Kd.at_int (Kd.V_reads' HO226.out).2.2 a2 p227 q227; cases e227; replace p227 := eq_true p227; replace q227 := eq_true q227))
            go_ret
            exact ⟨by first | rfl | (simp [errW_none, errW_some, erT_no, erV_no, erT_at, erV_at] <;> rfl) | (simp [*, errW_none, errW_some, erT_no, erV_no, erT_at, erV_at] <;> rfl), by repeat (first | (with_reducible first | exact HB.out | apply below_alloc | apply pw_below_drewN | apply below_drew1) | exact HB.out)⟩
          · rw [if_neg c12] at H
            exact absurd H (by simp)
        · rw [if_neg c11] at H
          exact absurd H (by simp)
  · rw [if_neg c4] at H
    exact absurd H (by simp)

/-! ### view_File_Kid_nil: function 12 -/
def view_File_Kid_nil.f (a0 : Unit) (a1 : Int) (a2 : Int) : Option (Int) := (view_File_Node_nil.f a0 a1).bind fun bt228 => (if a2 < 0 then (some (-1)) else (if a2 ≥ (bt228.2.2.2.length : Int) then (some (-1)) else (if 0 ≤ a2 then (if a2 < (bt228.2.2.2.length : Int) then (some (rd bt228.2.2.2 a2)) else (none)) else (none))))
set_option maxHeartbeats 8000000 in
set_option maxRecDepth 100000 in
theorem view_File_Kid_nil.calls (a0 : Unit) (a1 : Int) (a2 : Int) (r : Int) (w : World) (h : view_File_Kid_nil.f a0 a1 a2 = some r) :
    Calls Try.prog 12 #[.pointer none, .int .i64 a1, .int .i64 a2] w fun e w' => e = .returned (.int .i64 r) ∧ Below w.heap.size w w' := by
  have hu44 := Try.underlying44
  have hfd44_3 : ∀ (c0_ c1_ c2_ c3_ : Value) (W_ : World), (Instr.field 44 (.agg #[c0_, c1_, c2_, c3_]) 3).run Try.prog W_ = .ok (c3_) W_ := fun _ _ _ _ _ => by kernel_rfl
  have HB := Aside0.mk (Below.refl w.heap.size w)
  have H : ((view_File_Node_nil.f a0 a1).bind fun bt228 => (if a2 < 0 then (some (-1)) else (if a2 ≥ (bt228.2.2.2.length : Int) then (some (-1)) else (if 0 ≤ a2 then (if a2 < (bt228.2.2.2.length : Int) then (some (rd bt228.2.2.2 a2)) else (none)) else (none))))) = some r := h
  clear h
  replace H := Option.bind_eq_some_iff.mp H
  obtain ⟨⟨t228, t229, t230, t231⟩, A40, H⟩ := H
  replace H : (if a2 < 0 then (some (-1)) else (if a2 ≥ (t231.length : Int) then (some (-1)) else (if 0 ≤ a2 then (if a2 < (t231.length : Int) then (some (rd t231 a2)) else (none)) else (none)))) = some r := H
  have A4 := Aside0.mk A40
  clear A40
  by_cases c5 : a2 < 0
  · rw [if_pos c5] at H
    have c5b0 : decide (a2 < 0) = true := decide_eq_true c5
    clear c5
    obtain rfl := Option.some.inj H
    go_enter Try.func12, Try.ntmps12
    go_wp2_with (first | ((with_reducible refine gate_callee (f := 37) rfl ?_); refine goesL_ (some 10) rfl rfl Try.func37 (by kernel_rfl) rfl #[.pointer none, .int .i64 a1] rfl (by (try simp only [List.map_toArray, List.map_cons, List.map_nil]); first | done | rfl | (simp only [List.length_drop, List.length_take]; rfl)) ?_; (with_reducible refine (view_File_Node_nil.calls a0 a1 t228 t229 t230 t231 _ A4.out).mono ?_); rintro e w6 ⟨v232, rfl, ho0, hb⟩; refine ⟨_, rfl, ?_⟩; have n0_ := Aside0.mk (Kd.R_lower ho0 (below_size (by repeat (first | (with_reducible first | exact HB.out | apply below_alloc | apply pw_below_drewN | apply below_drew1) | exact HB.out)))); have n1_ := Aside0.mk (below_step (by repeat (first | (with_reducible first | exact HB.out | apply below_alloc | apply pw_below_drewN | apply below_drew1) | exact HB.out)) hb); clear HB; have HO233 := n0_; have HB := n1_; clear n0_ n1_; (try clear hb); (try clear hb2); (try clear hk); (try clear hi); (try clear ho0)))
    go_ret
    exact ⟨by first | rfl | (simp [errW_none, errW_some, erT_no, erV_no, erT_at, erV_at] <;> rfl) | (simp [*, errW_none, errW_some, erT_no, erV_no, erT_at, erV_at] <;> rfl), by repeat (first | (with_reducible first | exact HB.out | apply below_alloc | apply pw_below_drewN | apply below_drew1) | exact HB.out)⟩
  · rw [if_neg c5] at H
    have c5b0 : decide (a2 < 0) = false := decide_eq_false c5
    clear c5
    by_cases c7 : a2 ≥ (t231.length : Int)
    · rw [if_pos c7] at H
      have c7b0 : decide ((t231.length : Int) ≤ a2) = true := decide_eq_true c7
      clear c7
      obtain rfl := Option.some.inj H
      go_enter Try.func12, Try.ntmps12
      go_wp2_with (first | ((with_reducible refine gate_callee (f := 37) rfl ?_); refine goesL_ (some 10) rfl rfl Try.func37 (by kernel_rfl) rfl #[.pointer none, .int .i64 a1] rfl (by (try simp only [List.map_toArray, List.map_cons, List.map_nil]); first | done | rfl | (simp only [List.length_drop, List.length_take]; rfl)) ?_; (with_reducible refine (view_File_Node_nil.calls a0 a1 t228 t229 t230 t231 _ A4.out).mono ?_); rintro e w8 ⟨v232, rfl, ho0, hb⟩; refine ⟨_, rfl, ?_⟩; have n0_ := Aside0.mk (Kd.R_lower ho0 (below_size (by repeat (first | (with_reducible first | exact HB.out | apply below_alloc | apply pw_below_drewN | apply below_drew1) | exact HB.out)))); have n1_ := Aside0.mk (below_step (by repeat (first | (with_reducible first | exact HB.out | apply below_alloc | apply pw_below_drewN | apply below_drew1) | exact HB.out)) hb); clear HB; have HO233 := n0_; have HB := n1_; clear n0_ n1_; (try clear hb); (try clear hb2); (try clear hk); (try clear hi); (try clear ho0); obtain ⟨Ao9, co9, eo9⟩ := Kd.R_slice HO233.out; subst eo9))
      go_ret
      exact ⟨by first | rfl | (simp [errW_none, errW_some, erT_no, erV_no, erT_at, erV_at] <;> rfl) | (simp [*, errW_none, errW_some, erT_no, erV_no, erT_at, erV_at] <;> rfl), by repeat (first | (with_reducible first | exact HB.out | apply below_alloc | apply pw_below_drewN | apply below_drew1) | exact HB.out)⟩
    · rw [if_neg c7] at H
      have c7b0 : decide ((t231.length : Int) ≤ a2) = false := decide_eq_false c7
      clear c7
      by_cases c10 : 0 ≤ a2
      · rw [if_pos c10] at H
        have c10b0 : decide (0 ≤ a2) = true := decide_eq_true c10
        clear c10
        by_cases c11 : a2 < (t231.length : Int)
        · rw [if_pos c11] at H
          have c11b0 : decide (a2 < (t231.length : Int)) = true := decide_eq_true c11
          clear c11
          obtain rfl := Option.some.inj H
          go_enter Try.func12, Try.ntmps12
          go_wp2_with (first | ((with_reducible refine gate_callee (f := 37) rfl ?_); refine goesL_ (some 10) rfl rfl Try.func37 (by kernel_rfl) rfl #[.pointer none, .int .i64 a1] rfl (by (try simp only [List.map_toArray, List.map_cons, List.map_nil]); first | done | rfl | (simp only [List.length_drop, List.length_take]; rfl)) ?_; (with_reducible refine (view_File_Node_nil.calls a0 a1 t228 t229 t230 t231 _ A4.out).mono ?_); rintro e w12 ⟨v232, rfl, ho0, hb⟩; refine ⟨_, rfl, ?_⟩; have n0_ := Aside0.mk (Kd.R_lower ho0 (below_size (by repeat (first | (with_reducible first | exact HB.out | apply below_alloc | apply pw_below_drewN | apply below_drew1) | exact HB.out)))); have n1_ := Aside0.mk (below_step (by repeat (first | (with_reducible first | exact HB.out | apply below_alloc | apply pw_below_drewN | apply below_drew1) | exact HB.out)) hb); clear HB; have HO233 := n0_; have HB := n1_; clear n0_ n1_; (try clear hb); (try clear hb2); (try clear hk); (try clear hi); (try clear ho0); obtain ⟨Ao13, co13, eo13⟩ := Kd.R_slice HO233.out; subst eo13; have p234 : 0 ≤ (a2 : Int) := of_decide_eq_true (by first | (with_reducible assumption) | assumption); have q234 : a2 < (t231.length : Int) := of_decide_eq_true (by first | (with_reducible assumption) | assumption); obtain ⟨ad234, e234, hx234_0⟩ := Kd.at_int (Kd.R_reads' HO233.out).2.2 a2 p234 q234; cases e234; replace p234 := eq_true p234; replace q234 := eq_true q234))
          go_ret
          exact ⟨by first | rfl | (simp [errW_none, errW_some, erT_no, erV_no, erT_at, erV_at] <;> rfl) | (simp [*, errW_none, errW_some, erT_no, erV_no, erT_at, erV_at] <;> rfl), by repeat (first | (with_reducible first | exact HB.out | apply below_alloc | apply pw_below_drewN | apply below_drew1) | exact HB.out)⟩
        · rw [if_neg c11] at H
          exact absurd H (by simp)
      · rw [if_neg c10] at H
        exact absurd H (by simp)

end Go.Proofs.Ytnpgadfoohjlnaa.QV
