/- Where a Lean function of this text answers, the Go function of its name comes to that answer: no other condition. Written by a program of this session out of the translation; Lean checks it. -/
import Derived.Test.YtnpgadfoohjlnabDoorQK0
import Derived.Test.YtnpgadfoohjlnabDoorQK2
import Derived.Test.YtnpgadfoohjlnabDoorQK3
import Derived.Test.YtnpgadfoohjlnabDoorQK5
namespace Go.Proofs.YtnpgadfoohjlnabDoor.QK
open Go.RowKit Go.Proofs.YtnpgadfoohjlnabDoorW.PrintWords Go.Proofs.YtnpgadfoohjlnabDoorW.PrintLast Go.Proofs.YtnpgadfoohjlnabDoorW.PrintMore Go.Proofs.YtnpgadfoohjlnabDoorW.PrintX
attribute [local go_sem] max2_int min2_int max_two min_two max_three min_three max_four min_four   -- for this text's walks alone
set_option linter.unusedVariables false
set_option linter.unusedSimpArgs false

/-! ### cavilref33_Step: function 30 -/
def cavilref33_Step.f (k : Nat) (a0 : Int) : Option (ByteArray) := (cavilref07_Small.f k a0).bind fun bt210 => (if a0 ≥ 0 then ((cavilref07_Small.f k 1).bind fun bt215 => ((cavilref07_Add.f k bt210.1 bt210.2 bt215.1 bt215.2).bind fun bt219 => ((cavilref07_Text.f bt219.1 bt219.2).bind fun t223 => (if 9 + t223.size ≤ 9223372036854775807 then (some ((⟨#[97, 114, 103, 117, 109, 101, 110, 116, 32]⟩ : ByteArray) ++ t223)) else (none))))) else (if a0 = (-1) then (some (⟨#[103, 105, 118, 101, 110, 32, 116, 121, 112, 101, 32, 97, 114, 103, 117, 109, 101, 110, 116]⟩ : ByteArray)) else (if a0 < (-4611686018427387904) then ((cavilref07_Power.f 62).bind fun bt224 => ((cavilref07_Sub.f k false ([] : List Int) bt224.1 bt224.2).bind fun bt228 => ((cavilref07_Small.f k (wrap64 (a0 + 4611686018427387904))).bind fun bt232 => ((cavilref07_Add.f k bt228.1 bt228.2 bt232.1 bt232.2).bind fun bt236 => ((cavilref07_Small.f k (-1)).bind fun bt240 => ((cavilref07_Sub.f k bt240.1 bt240.2 bt236.1 bt236.2).bind fun bt244 => ((cavilref07_Text.f bt244.1 bt244.2).bind fun t248 => (if 24 + t248.size ≤ 9223372036854775807 then (some ((⟨#[98, 111, 117, 110, 100, 32, 111, 102, 32, 116, 121, 112, 101, 32, 112, 97, 114, 97, 109, 101, 116, 101, 114, 32]⟩ : ByteArray) ++ t248)) else (none))))))))) else ((cavilref07_Small.f k (-1)).bind fun bt249 => ((cavilref07_Sub.f k bt249.1 bt249.2 bt210.1 bt210.2).bind fun bt253 => ((cavilref07_Text.f bt253.1 bt253.2).bind fun t257 => (if 24 + t257.size ≤ 9223372036854775807 then (some ((⟨#[98, 111, 117, 110, 100, 32, 111, 102, 32, 116, 121, 112, 101, 32, 112, 97, 114, 97, 109, 101, 116, 101, 114, 32]⟩ : ByteArray) ++ t257)) else (none))))))))
theorem cavilref33_Step.mono : ∀ a0 k, LeO (cavilref33_Step.f k a0) (cavilref33_Step.f (k + 1) a0) := by
  intro a0 k
  unfold cavilref33_Step.f
  repeat' first
      | (with_reducible exact cavilref07_Add.mono _ _ _ _ _)
      | (with_reducible exact cavilref07_Small.mono _ _)
      | (with_reducible exact cavilref07_Sub.mono _ _ _ _ _)
      | (with_reducible exact LeO.refl _)
      | (with_reducible exact LeO.none _)
      | (with_reducible refine LeO.ite ?_ ?_)
      | (with_reducible refine LeO.bind ?_ (fun _ => ?_))
      | exact cavilref07_Add.mono _ _ _ _ _
      | exact cavilref07_Small.mono _ _
      | exact cavilref07_Sub.mono _ _ _ _ _
      | exact LeO.none _
      | refine LeO.ite ?_ ?_
      | refine LeO.bind ?_ (fun _ => ?_)
set_option maxHeartbeats 8000000 in
set_option maxRecDepth 100000 in
theorem cavilref33_Step.calls (k : Nat) (a0 : Int) (r : ByteArray) (w : World) (h : cavilref33_Step.f k a0 = some r) :
    Calls Tryd.prog 30 #[.int .i64 a0] w fun e w' => e = .returned (.string r) ∧ Below w.heap.size w w' := by
  have hu93 := Tryd.underlying93
  have HB := Aside0.mk (Below.refl w.heap.size w)
  have H : ((cavilref07_Small.f k a0).bind fun bt210 => (if a0 ≥ 0 then ((cavilref07_Small.f k 1).bind fun bt215 => ((cavilref07_Add.f k bt210.1 bt210.2 bt215.1 bt215.2).bind fun bt219 => ((cavilref07_Text.f bt219.1 bt219.2).bind fun t223 => (if 9 + t223.size ≤ 9223372036854775807 then (some ((⟨#[97, 114, 103, 117, 109, 101, 110, 116, 32]⟩ : ByteArray) ++ t223)) else (none))))) else (if a0 = (-1) then (some (⟨#[103, 105, 118, 101, 110, 32, 116, 121, 112, 101, 32, 97, 114, 103, 117, 109, 101, 110, 116]⟩ : ByteArray)) else (if a0 < (-4611686018427387904) then ((cavilref07_Power.f 62).bind fun bt224 => ((cavilref07_Sub.f k false ([] : List Int) bt224.1 bt224.2).bind fun bt228 => ((cavilref07_Small.f k (wrap64 (a0 + 4611686018427387904))).bind fun bt232 => ((cavilref07_Add.f k bt228.1 bt228.2 bt232.1 bt232.2).bind fun bt236 => ((cavilref07_Small.f k (-1)).bind fun bt240 => ((cavilref07_Sub.f k bt240.1 bt240.2 bt236.1 bt236.2).bind fun bt244 => ((cavilref07_Text.f bt244.1 bt244.2).bind fun t248 => (if 24 + t248.size ≤ 9223372036854775807 then (some ((⟨#[98, 111, 117, 110, 100, 32, 111, 102, 32, 116, 121, 112, 101, 32, 112, 97, 114, 97, 109, 101, 116, 101, 114, 32]⟩ : ByteArray) ++ t248)) else (none))))))))) else ((cavilref07_Small.f k (-1)).bind fun bt249 => ((cavilref07_Sub.f k bt249.1 bt249.2 bt210.1 bt210.2).bind fun bt253 => ((cavilref07_Text.f bt253.1 bt253.2).bind fun t257 => (if 24 + t257.size ≤ 9223372036854775807 then (some ((⟨#[98, 111, 117, 110, 100, 32, 111, 102, 32, 116, 121, 112, 101, 32, 112, 97, 114, 97, 109, 101, 116, 101, 114, 32]⟩ : ByteArray) ++ t257)) else (none))))))))) = some r := h
  clear h
  replace H := Option.bind_eq_some_iff.mp H
  obtain ⟨⟨t210, t211⟩, A20, H⟩ := H
  replace H : (if a0 ≥ 0 then ((cavilref07_Small.f k 1).bind fun bt215 => ((cavilref07_Add.f k t210 t211 bt215.1 bt215.2).bind fun bt219 => ((cavilref07_Text.f bt219.1 bt219.2).bind fun t223 => (if 9 + t223.size ≤ 9223372036854775807 then (some ((⟨#[97, 114, 103, 117, 109, 101, 110, 116, 32]⟩ : ByteArray) ++ t223)) else (none))))) else (if a0 = (-1) then (some (⟨#[103, 105, 118, 101, 110, 32, 116, 121, 112, 101, 32, 97, 114, 103, 117, 109, 101, 110, 116]⟩ : ByteArray)) else (if a0 < (-4611686018427387904) then ((cavilref07_Power.f 62).bind fun bt224 => ((cavilref07_Sub.f k false ([] : List Int) bt224.1 bt224.2).bind fun bt228 => ((cavilref07_Small.f k (wrap64 (a0 + 4611686018427387904))).bind fun bt232 => ((cavilref07_Add.f k bt228.1 bt228.2 bt232.1 bt232.2).bind fun bt236 => ((cavilref07_Small.f k (-1)).bind fun bt240 => ((cavilref07_Sub.f k bt240.1 bt240.2 bt236.1 bt236.2).bind fun bt244 => ((cavilref07_Text.f bt244.1 bt244.2).bind fun t248 => (if 24 + t248.size ≤ 9223372036854775807 then (some ((⟨#[98, 111, 117, 110, 100, 32, 111, 102, 32, 116, 121, 112, 101, 32, 112, 97, 114, 97, 109, 101, 116, 101, 114, 32]⟩ : ByteArray) ++ t248)) else (none))))))))) else ((cavilref07_Small.f k (-1)).bind fun bt249 => ((cavilref07_Sub.f k bt249.1 bt249.2 t210 t211).bind fun bt253 => ((cavilref07_Text.f bt253.1 bt253.2).bind fun t257 => (if 24 + t257.size ≤ 9223372036854775807 then (some ((⟨#[98, 111, 117, 110, 100, 32, 111, 102, 32, 116, 121, 112, 101, 32, 112, 97, 114, 97, 109, 101, 116, 101, 114, 32]⟩ : ByteArray) ++ t257)) else (none)))))))) = some r := H
  have A2 := Aside0.mk A20
  clear A20
  by_cases c3 : a0 ≥ 0
  · rw [if_pos c3] at H
    have c3b0 : decide (0 ≤ a0) = true := decide_eq_true c3
    clear c3
    replace H := Option.bind_eq_some_iff.mp H
    obtain ⟨⟨t215, t216⟩, A40, H⟩ := H
    replace H : ((cavilref07_Add.f k t210 t211 t215 t216).bind fun bt219 => ((cavilref07_Text.f bt219.1 bt219.2).bind fun t223 => (if 9 + t223.size ≤ 9223372036854775807 then (some ((⟨#[97, 114, 103, 117, 109, 101, 110, 116, 32]⟩ : ByteArray) ++ t223)) else (none)))) = some r := H
    have A4 := Aside0.mk A40
    clear A40
    replace H := Option.bind_eq_some_iff.mp H
    obtain ⟨⟨t219, t220⟩, A50, H⟩ := H
    replace H : ((cavilref07_Text.f t219 t220).bind fun t223 => (if 9 + t223.size ≤ 9223372036854775807 then (some ((⟨#[97, 114, 103, 117, 109, 101, 110, 116, 32]⟩ : ByteArray) ++ t223)) else (none))) = some r := H
    have A5 := Aside0.mk A50
    clear A50
    replace H := Option.bind_eq_some_iff.mp H
    obtain ⟨t223, A60, H⟩ := H
    replace H : (if 9 + t223.size ≤ 9223372036854775807 then (some ((⟨#[97, 114, 103, 117, 109, 101, 110, 116, 32]⟩ : ByteArray) ++ t223)) else (none)) = some r := H
    have A6 := Aside0.mk A60
    clear A60
    by_cases c7 : 9 + t223.size ≤ 9223372036854775807
    · rw [if_pos c7] at H
      have c7b0 := eq_true c7
      have c7b1 : decide (9 + t223.size ≤ 9223372036854775807) = true := decide_eq_true c7
      try have c7b2 : (9223372036854775807 < 9 + t223.size) = False := eq_false (Nat.not_lt.2 c7)
      obtain rfl := Option.some.inj H
      go_enter Tryd.func30, Tryd.ntmps30
      try go_wp2_with (first | ((with_reducible refine gate_callee (f := 56) rfl ?_); refine goesL_ (some 5) rfl rfl Tryd.func56 (by kernel_rfl) rfl #[.int .i64 a0] rfl (by (try simp only [List.map_toArray, List.map_cons, List.map_nil]); first | done | rfl | (simp only [List.length_drop, List.length_take]; rfl)) ?_; (with_reducible refine (cavilref07_Small.calls k a0 t210 t211 _ A2.out).mono ?_); rintro e w8 ⟨v212, rfl, ho0, hb⟩; refine ⟨_, rfl, ?_⟩; have n0_ := Aside0.mk (Kd.V_lower (Kd.V_mono (ok' := fun k_ => True) ho0 (fun k_ hk_ => trivial)) (below_size (by repeat (first | (with_reducible first | exact HB.out | apply below_alloc | apply pw_below_drewN | apply below_drew1) | exact HB.out)))); have n1_ := Aside0.mk (below_step (by repeat (first | (with_reducible first | exact HB.out | apply below_alloc | apply pw_below_drewN | apply below_drew1) | exact HB.out)) hb); clear HB; have HO213 := n0_; have HB := n1_; clear n0_ n1_; (try clear hb); (try clear hb2); (try clear hk); (try clear hi); (try clear ho0)) | ((with_reducible refine gate_dst (N := 3) rfl ?_); refine box_event ?hg (N := 3) ?hd (cs := #[.bool false, .slice none 0 0]) (t := 93) ?hr ?_; (case hd => rfl); (case hg => rfl); (case hr => first | (go_simp; done) | (go_simp; rfl)); intro gb214 hg w9 hbox hb; have n0_ := Aside0.mk (Kd.V_below (Kd.V_elderB (by (with_reducible repeat (first | apply Kd.V_alloc | apply Kd.V_drewN | apply Kd.V_drew)); exact HO213.out) gb214 (Nat.le_of_eq hg.symm)) hb); have n1_ := Aside0.mk (below_step (by repeat (first | (with_reducible first | exact HB.out | apply below_alloc | apply pw_below_drewN | apply below_drew1) | exact HB.out)) hb); have n2_ := Aside0.mk (hbox); have n3_ := Aside0.mk ((by rw [hg]; exact (below_size (by repeat (first | (with_reducible first | exact HB.out | apply below_alloc | apply pw_below_drewN | apply below_drew1) | exact HB.out))) : w.heap.size ≤ gb214)); have n4_ := Aside0.mk ((by rw [hg]; exact (below_size (by repeat (first | (with_reducible first | exact HB.out | apply below_alloc | apply pw_below_drewN | apply below_drew1) | exact HB.out))) : w.heap.size ≤ gb214)); clear HO213; clear HB; have HO213 := n0_; have HB := n1_; have BK214 := n2_; have GW214 := n3_; have GE214 := n4_; clear n0_ n1_ n2_ n3_ n4_; clear hb hbox hg; have hcz10_0 : w9.cell? ⟨gb214, 0, none⟩ = some (.bool false) := (blk_cell BK214.out 0).trans rfl; have hcz10_1 : w9.cell? ⟨gb214, 1, none⟩ = some (.slice none 0 0) := (blk_cell BK214.out 1).trans rfl; have hfz10_0 := blk_frozen BK214.out 0; have hfz10_1 := blk_frozen BK214.out 1; obtain ⟨Ao11, co11, eo11⟩ := Kd.V_slice HO213.out; subst eo11))
      have n0_ : Aside0 (Kd.V (Kd.int .i64) 3 ((w9.setCell ⟨gb214, 0, none⟩ (.bool t210)).setCell ⟨gb214, 1, none⟩ (.slice Ao11 t211.length co11)) w.heap.size (fun k_ => k_ ≠ gb214) (.slice Ao11 t211.length co11) t211) := ⟨by (with_reducible repeat (first | apply Kd.V_alloc | apply Kd.V_drewN | apply Kd.V_drew)); exact Kd.V_mono (Kd.V_far (p := ⟨gb214, 1, none⟩) (Kd.V_far (p := ⟨gb214, 0, none⟩) (Kd.V_mono HO213.out (fun k_ hk => (⟨hk, hk.2⟩ : _ ∧ k_ ≠ gb214))) (fun _ hk => hk.2) (.bool t210)) (fun _ hk => hk.2) (.slice Ao11 t211.length co11)) (fun _ hk => hk.1.2)⟩
      have n1_ : Aside0 (((w9.setCell ⟨gb214, 0, none⟩ (.bool t210)).setCell ⟨gb214, 1, none⟩ (.slice Ao11 t211.length co11)).heap[gb214]? = some (.cells #[.bool t210, .slice Ao11 t211.length co11] 93 (0, 0))) := ⟨by (with_reducible repeat (first | refine blk_drewN ?_ _ | refine blk_drew ?_ | refine blk_alloc ?_ _)); refine blk_put (cs := #[.bool t210, .slice none 0 0]) ?_ 1 _ rfl; (with_reducible repeat (first | refine blk_drewN ?_ _ | refine blk_drew ?_ | refine blk_alloc ?_ _)); refine blk_put (cs := #[.bool false, .slice none 0 0]) ?_ 0 _ rfl; (with_reducible repeat (first | refine blk_drewN ?_ _ | refine blk_drew ?_ | refine blk_alloc ?_ _)); exact BK214.out⟩
      have n2_ : Aside0 (Below w.heap.size w ((w9.setCell ⟨gb214, 0, none⟩ (.bool t210)).setCell ⟨gb214, 1, none⟩ (.slice Ao11 t211.length co11))) := ⟨by repeat (first | (with_reducible first | exact HB.out | apply below_alloc | apply pw_below_drewN | apply below_drew1 | refine below_set ?_ GE214.out) | exact HB.out)⟩
      (try clear HO213)
      (try clear BK214)
      (try clear HB)
      generalize ((w9.setCell ⟨gb214, 0, none⟩ (.bool t210)).setCell ⟨gb214, 1, none⟩ (.slice Ao11 t211.length co11)) = w12 at n0_ n1_ n2_ ⊢
      have HO213 := n0_
      have BK214 := n1_
      have HB := n2_
      clear n0_ n1_ n2_
      have n0_ := Aside0.mk (Kd.V_drew HO213.out)
      have n1_ := Aside0.mk (blk_drew BK214.out)
      have n2_ := Aside0.mk (below_drew1 HB.out)
      clear HO213
      clear BK214
      clear HB
      have HO213 := n0_
      have BK214 := n1_
      have HB := n2_
      clear n0_ n1_ n2_
      refine start_ (n := 6) (S := fun w' => w'.cell? ⟨gb214, 0, none⟩ = some (.bool t210) ∧ w'.cell? ⟨gb214, 1, none⟩ = some (.slice Ao11 t211.length co11)) (ds := []) #[false, false, false, false, false, false] (by kernel_rfl) rfl rfl ⟨(blk_cell BK214.out 0).trans rfl, (blk_cell BK214.out 1).trans rfl⟩ (fun hHeld => ?_)
      generalize w12.drew = w13 at HO213 BK214 HB hHeld ⊢
      refine take_ (i := 0) (N := some 8) (v := ?_) (a' := ?_) #[true, false, false, false, false, false] rfl rfl (by kernel_rfl) (fun _ _ _ h => h) (Or.inl ⟨by rfl, ?_⟩) hHeld ?_ ?_
      rotate_left
      · rintro w' ⟨s0, s1⟩
        go_simp
        with_reducible rfl
      rotate_left
      · simp only [Act.put, List.setIfInBounds_toArray, List.set_cons_zero, List.set_cons_succ, i64_w, i32_w]
        rfl
      refine one_ (i := 1) (N := some 9) #[true, true, false, false, false, false] rfl rfl (by kernel_rfl) (by decide) (fun K hK => ?_)
      refine goes_ Tryd.func56 (by kernel_rfl) rfl #[.int .i64 1] (by rfl) rfl rfl (by (try simp only [List.map_toArray, List.map_cons, List.map_nil]); first | done | rfl | (simp only [List.length_drop, List.length_take]; rfl)) ?_
      with_reducible refine (cavilref07_Small.calls k 1 t215 t216 _ A4.out).mono ?_
      rintro e w14 ⟨v217, rfl, ho0, hb⟩
      refine ⟨_, rfl, ?_⟩
      have n0_ := Aside0.mk (Kd.V_below (by (with_reducible repeat (first | apply Kd.V_alloc | apply Kd.V_drewN | apply Kd.V_drew)); exact HO213.out) hb)
      have n1_ := Aside0.mk (Kd.V_lower (Kd.V_mono (ok' := fun k_ => k_ ≠ gb214) ho0 (fun k_ hk_ => (Kd.freshB (g := gb214) (o := .cells #[.bool t210, .slice Ao11 t211.length co11] 93 (0, 0)) (by (with_reducible repeat (first | refine blk_drewN ?_ _ | refine blk_drew ?_ | refine blk_alloc ?_ _)); exact BK214.out) k_ hk_))) (below_size (by repeat (first | (with_reducible first | exact HB.out | apply below_alloc | apply pw_below_drewN | apply below_drew1 | refine below_set ?_ GE214.out) | exact HB.out))))
      have n2_ := Aside0.mk (blk_below (g := gb214) (o := .cells #[.bool t210, .slice Ao11 t211.length co11] 93 (0, 0)) (by (with_reducible repeat (first | refine blk_drewN ?_ _ | refine blk_drew ?_ | refine blk_alloc ?_ _)); exact BK214.out) hb)
      have n3_ := Aside0.mk (below_step (by repeat (first | (with_reducible first | exact HB.out | apply below_alloc | apply pw_below_drewN | apply below_drew1 | refine below_set ?_ GE214.out) | exact HB.out)) hb)
      clear HO213
      clear BK214
      clear HB
      have HO213 := n0_
      have HO218 := n1_
      have BK214 := n2_
      have HB := n3_
      clear n0_ n1_ n2_ n3_
      (try clear hb)
      (try clear hb2)
      (try clear hk)
      (try clear hi)
      (try clear ho0)
      obtain ⟨Ao15, co15, eo15⟩ := Kd.V_slice HO218.out
      (first | subst eo15 | (injection eo15 with f1_ f2_ f3_; have f4_ := f1_.symm; have f5_ := f3_.symm; clear f1_ f2_ f3_; subst f4_; subst f5_))
      refine hK.out _ _ ⟨(blk_cell BK214.out 0).trans rfl, (blk_cell BK214.out 1).trans rfl⟩ (fun hHeld => ?_)
      clear hK K
      refine norm_ (a' := ?_) ?_ ?_
      rotate_left
      · show Act.put _ (some 9) _ = _
        simp only [Act.put, List.setIfInBounds_toArray, List.set_cons_zero, List.set_cons_succ, i64_w, i32_w]
        rfl
      refine one_ (i := 2) (N := some 10) #[true, true, true, false, false, false] rfl rfl (by kernel_rfl) (by decide) (fun K hK => ?_)
      refine goes_ Tryd.func58 (by kernel_rfl) rfl #[.agg #[.bool t210, .slice Ao11 t211.length co11], .agg #[.bool t215, .slice Ao15 t216.length co15]] (by rfl) rfl rfl (by (try simp only [List.map_toArray, List.map_cons, List.map_nil]); first | done | rfl | (simp only [List.length_drop, List.length_take]; rfl)) ?_
      with_reducible refine (cavilref07_Add.calls k t210 _ _ t211 t215 _ _ t216 t219 t220 _ ?side1 ?side2 ?side3 ?side4 A5.out).mono ?_
      (case side1 => repeat (first | exact (Kd.V_reads' HO213.out).2.2 | (with_reducible refine Kd.C_alloc ?_ _) | (with_reducible refine Kd.C_drewN ?_ _) | (with_reducible refine Kd.C_drew ?_)))
      (case side2 => exact (Kd.V_reads' HO213.out).2.1)
      (case side3 => repeat (first | exact (Kd.V_reads' HO218.out).2.2 | (with_reducible refine Kd.C_alloc ?_ _) | (with_reducible refine Kd.C_drewN ?_ _) | (with_reducible refine Kd.C_drew ?_)))
      (case side4 => exact (Kd.V_reads' HO218.out).2.1)
      rintro e w16 ⟨v221, rfl, ho0, hb⟩
      refine ⟨_, rfl, ?_⟩
      have n0_ := Aside0.mk (Kd.V_below (by (with_reducible repeat (first | apply Kd.V_alloc | apply Kd.V_drewN | apply Kd.V_drew)); exact HO213.out) hb)
      have n1_ := Aside0.mk (Kd.V_below (by (with_reducible repeat (first | apply Kd.V_alloc | apply Kd.V_drewN | apply Kd.V_drew)); exact HO218.out) hb)
      have n2_ := Aside0.mk (Kd.V_lower (Kd.V_mono (ok' := fun k_ => k_ ≠ gb214) ho0 (fun k_ hk_ => (Kd.freshB (g := gb214) (o := .cells #[.bool t210, .slice Ao11 t211.length co11] 93 (0, 0)) (by (with_reducible repeat (first | refine blk_drewN ?_ _ | refine blk_drew ?_ | refine blk_alloc ?_ _)); exact BK214.out) k_ hk_))) (below_size (by repeat (first | (with_reducible first | exact HB.out | apply below_alloc | apply pw_below_drewN | apply below_drew1 | refine below_set ?_ GE214.out) | exact HB.out))))
      have n3_ := Aside0.mk (blk_below (g := gb214) (o := .cells #[.bool t210, .slice Ao11 t211.length co11] 93 (0, 0)) (by (with_reducible repeat (first | refine blk_drewN ?_ _ | refine blk_drew ?_ | refine blk_alloc ?_ _)); exact BK214.out) hb)
      have n4_ := Aside0.mk (below_step (by repeat (first | (with_reducible first | exact HB.out | apply below_alloc | apply pw_below_drewN | apply below_drew1 | refine below_set ?_ GE214.out) | exact HB.out)) hb)
      clear HO213
      clear HO218
      clear BK214
      clear HB
      have HO213 := n0_
      have HO218 := n1_
      have HO222 := n2_
      have BK214 := n3_
      have HB := n4_
      clear n0_ n1_ n2_ n3_ n4_
      (try clear hb)
      (try clear hb2)
      (try clear hk)
      (try clear hi)
      (try clear ho0)
      obtain ⟨Ao17, co17, eo17⟩ := Kd.V_slice HO222.out
      (first | subst eo17 | (injection eo17 with f1_ f2_ f3_; have f4_ := f1_.symm; have f5_ := f3_.symm; clear f1_ f2_ f3_; subst f4_; subst f5_))
      refine hK.out _ _ ⟨(blk_cell BK214.out 0).trans rfl, (blk_cell BK214.out 1).trans rfl⟩ (fun hHeld => ?_)
      clear hK K
      refine norm_ (a' := ?_) ?_ ?_
      rotate_left
      · show Act.put _ (some 10) _ = _
        simp only [Act.put, List.setIfInBounds_toArray, List.set_cons_zero, List.set_cons_succ, i64_w, i32_w]
        rfl
      refine one_ (i := 3) (N := some 11) #[true, true, true, true, false, false] rfl rfl (by kernel_rfl) (by decide) (fun K hK => ?_)
      refine goes_ Tryd.func57 (by kernel_rfl) rfl #[.agg #[.bool t219, .slice Ao17 t220.length co17]] (by rfl) rfl rfl (by (try simp only [List.map_toArray, List.map_cons, List.map_nil]); first | done | rfl | (simp only [List.length_drop, List.length_take]; rfl)) ?_
      with_reducible refine (cavilref07_Text.calls t219 _ _ t220 t223 _ ?side1 ?side2 A6.out).mono ?_
      (case side1 => repeat (first | exact (Kd.V_reads' HO222.out).2.2 | (with_reducible refine Kd.C_alloc ?_ _) | (with_reducible refine Kd.C_drewN ?_ _) | (with_reducible refine Kd.C_drew ?_)))
      (case side2 => exact (Kd.V_reads' HO222.out).2.1)
      rintro e w18 ⟨rfl, hb⟩
      refine ⟨_, rfl, ?_⟩
      have n0_ := Aside0.mk (Kd.V_below (by (with_reducible repeat (first | apply Kd.V_alloc | apply Kd.V_drewN | apply Kd.V_drew)); exact HO213.out) hb)
      have n1_ := Aside0.mk (Kd.V_below (by (with_reducible repeat (first | apply Kd.V_alloc | apply Kd.V_drewN | apply Kd.V_drew)); exact HO218.out) hb)
      have n2_ := Aside0.mk (Kd.V_below (by (with_reducible repeat (first | apply Kd.V_alloc | apply Kd.V_drewN | apply Kd.V_drew)); exact HO222.out) hb)
      have n3_ := Aside0.mk (blk_below (g := gb214) (o := .cells #[.bool t210, .slice Ao11 t211.length co11] 93 (0, 0)) (by (with_reducible repeat (first | refine blk_drewN ?_ _ | refine blk_drew ?_ | refine blk_alloc ?_ _)); exact BK214.out) hb)
      have n4_ := Aside0.mk (below_step (by repeat (first | (with_reducible first | exact HB.out | apply below_alloc | apply pw_below_drewN | apply below_drew1 | refine below_set ?_ GE214.out) | exact HB.out)) hb)
      clear HO213
      clear HO218
      clear HO222
      clear BK214
      clear HB
      have HO213 := n0_
      have HO218 := n1_
      have HO222 := n2_
      have BK214 := n3_
      have HB := n4_
      clear n0_ n1_ n2_ n3_ n4_
      (try clear hb)
      (try clear hb2)
      (try clear hk)
      (try clear hi)
      refine hK.out _ _ ⟨(blk_cell BK214.out 0).trans rfl, (blk_cell BK214.out 1).trans rfl⟩ (fun hHeld => ?_)
      clear hK K
      refine norm_ (a' := ?_) ?_ ?_
      rotate_left
      · show Act.put _ (some 11) _ = _
        simp only [Act.put, List.setIfInBounds_toArray, List.set_cons_zero, List.set_cons_succ, i64_w, i32_w]
        rfl
      refine pure_ (i := 4) (N := some 12) (v := ?_) (a' := ?_) #[true, true, true, true, true, false] rfl rfl (by kernel_rfl) (fun _ _ _ h => h) (Or.inl ⟨by rfl, ?_⟩) ?_ ?_
      rotate_left
      · intro w'
        go_simp
        with_reducible rfl
      rotate_left
      · simp only [Act.put, List.setIfInBounds_toArray, List.set_cons_zero, List.set_cons_succ, i64_w, i32_w]
        rfl
      refine pure_ (i := 5) (N := some 2) (v := ?_) (a' := ?_) #[true, true, true, true, true, true] rfl rfl (by kernel_rfl) (fun _ _ _ h => h) (Or.inl ⟨by rfl, ?_⟩) ?_ ?_
      rotate_left
      · intro w'
        go_simp
        with_reducible rfl
      rotate_left
      · simp only [Act.put, List.setIfInBounds_toArray, List.set_cons_zero, List.set_cons_succ, i64_w, i32_w]
        rfl
      refine done_ (by kernel_rfl) ?_
      try go_wp2
      go_ret
      exact ⟨by first | rfl | (simp [errW_none, errW_some, erT_no, erV_no, erT_at, erV_at] <;> rfl) | (simp [*, errW_none, errW_some, erT_no, erV_no, erT_at, erV_at] <;> rfl), by repeat (first | (with_reducible first | exact HB.out | apply below_alloc | apply pw_below_drewN | apply below_drew1 | refine below_set ?_ GE214.out) | exact HB.out)⟩
    · rw [if_neg c7] at H
      exact absurd H (by simp)
  · rw [if_neg c3] at H
    have c3b0 : decide (0 ≤ a0) = false := decide_eq_false c3
    clear c3
    by_cases c19 : a0 = (-1)
    · rw [if_pos c19] at H
      have c19b0 : (a0 == (-1)) = true := beq_iff_eq.mpr c19
      have c19b1 : (a0 != (-1)) = false := bne_eq_false_iff_eq.mpr c19
      clear c19
      obtain rfl := Option.some.inj H
      go_enter Tryd.func30, Tryd.ntmps30
      go_wp2_with (first | ((with_reducible refine gate_callee (f := 56) rfl ?_); refine goesL_ (some 5) rfl rfl Tryd.func56 (by kernel_rfl) rfl #[.int .i64 a0] rfl (by (try simp only [List.map_toArray, List.map_cons, List.map_nil]); first | done | rfl | (simp only [List.length_drop, List.length_take]; rfl)) ?_; (with_reducible refine (cavilref07_Small.calls k a0 t210 t211 _ A2.out).mono ?_); rintro e w20 ⟨v212, rfl, ho0, hb⟩; refine ⟨_, rfl, ?_⟩; have n0_ := Aside0.mk (Kd.V_lower (Kd.V_mono (ok' := fun k_ => True) ho0 (fun k_ hk_ => trivial)) (below_size (by repeat (first | (with_reducible first | exact HB.out | apply below_alloc | apply pw_below_drewN | apply below_drew1) | exact HB.out)))); have n1_ := Aside0.mk (below_step (by repeat (first | (with_reducible first | exact HB.out | apply below_alloc | apply pw_below_drewN | apply below_drew1) | exact HB.out)) hb); clear HB; have HO213 := n0_; have HB := n1_; clear n0_ n1_; (try clear hb); (try clear hb2); (try clear hk); (try clear hi); (try clear ho0)) | ((with_reducible refine gate_dst (N := 3) rfl ?_); refine box_event ?hg (N := 3) ?hd (cs := #[.bool false, .slice none 0 0]) (t := 93) ?hr ?_; (case hd => rfl); (case hg => rfl); (case hr => first | (go_simp; done) | (go_simp; rfl)); intro gb214 hg w21 hbox hb; have n0_ := Aside0.mk (Kd.V_below (Kd.V_elderB (by (with_reducible repeat (first | apply Kd.V_alloc | apply Kd.V_drewN | apply Kd.V_drew)); exact HO213.out) gb214 (Nat.le_of_eq hg.symm)) hb); have n1_ := Aside0.mk (below_step (by repeat (first | (with_reducible first | exact HB.out | apply below_alloc | apply pw_below_drewN | apply below_drew1) | exact HB.out)) hb); have n2_ := Aside0.mk (hbox); have n3_ := Aside0.mk ((by rw [hg]; exact (below_size (by repeat (first | (with_reducible first | exact HB.out | apply below_alloc | apply pw_below_drewN | apply below_drew1) | exact HB.out))) : w.heap.size ≤ gb214)); have n4_ := Aside0.mk ((by rw [hg]; exact (below_size (by repeat (first | (with_reducible first | exact HB.out | apply below_alloc | apply pw_below_drewN | apply below_drew1) | exact HB.out))) : w.heap.size ≤ gb214)); clear HO213; clear HB; have HO213 := n0_; have HB := n1_; have BK214 := n2_; have GW214 := n3_; have GE214 := n4_; clear n0_ n1_ n2_ n3_ n4_; clear hb hbox hg; have hcz22_0 : w21.cell? ⟨gb214, 0, none⟩ = some (.bool false) := (blk_cell BK214.out 0).trans rfl; have hcz22_1 : w21.cell? ⟨gb214, 1, none⟩ = some (.slice none 0 0) := (blk_cell BK214.out 1).trans rfl; have hfz22_0 := blk_frozen BK214.out 0; have hfz22_1 := blk_frozen BK214.out 1; obtain ⟨Ao23, co23, eo23⟩ := Kd.V_slice HO213.out; subst eo23))
      go_ret
      exact ⟨by first | rfl | (simp [errW_none, errW_some, erT_no, erV_no, erT_at, erV_at] <;> rfl) | (simp [*, errW_none, errW_some, erT_no, erV_no, erT_at, erV_at] <;> rfl), by repeat (first | (with_reducible first | exact HB.out | apply below_alloc | apply pw_below_drewN | apply below_drew1 | refine below_set ?_ GE214.out) | exact HB.out)⟩
    · rw [if_neg c19] at H
      have c19b0 : (a0 == (-1)) = false := beq_eq_false_iff_ne.mpr c19
      have c19b1 : (a0 != (-1)) = true := bne_iff_ne.mpr c19
      by_cases c24 : a0 < (-4611686018427387904)
      · rw [if_pos c24] at H
        have c24b0 : decide (a0 < (-4611686018427387904)) = true := decide_eq_true c24
        clear c24
        replace H := Option.bind_eq_some_iff.mp H
        obtain ⟨⟨t224, t225⟩, A250, H⟩ := H
        replace H : ((cavilref07_Sub.f k false ([] : List Int) t224 t225).bind fun bt228 => ((cavilref07_Small.f k (wrap64 (a0 + 4611686018427387904))).bind fun bt232 => ((cavilref07_Add.f k bt228.1 bt228.2 bt232.1 bt232.2).bind fun bt236 => ((cavilref07_Small.f k (-1)).bind fun bt240 => ((cavilref07_Sub.f k bt240.1 bt240.2 bt236.1 bt236.2).bind fun bt244 => ((cavilref07_Text.f bt244.1 bt244.2).bind fun t248 => (if 24 + t248.size ≤ 9223372036854775807 then (some ((⟨#[98, 111, 117, 110, 100, 32, 111, 102, 32, 116, 121, 112, 101, 32, 112, 97, 114, 97, 109, 101, 116, 101, 114, 32]⟩ : ByteArray) ++ t248)) else (none)))))))) = some r := H
        have A25 := Aside0.mk A250
        clear A250
        replace H := Option.bind_eq_some_iff.mp H
        obtain ⟨⟨t228, t229⟩, A260, H⟩ := H
        replace H : ((cavilref07_Small.f k (wrap64 (a0 + 4611686018427387904))).bind fun bt232 => ((cavilref07_Add.f k t228 t229 bt232.1 bt232.2).bind fun bt236 => ((cavilref07_Small.f k (-1)).bind fun bt240 => ((cavilref07_Sub.f k bt240.1 bt240.2 bt236.1 bt236.2).bind fun bt244 => ((cavilref07_Text.f bt244.1 bt244.2).bind fun t248 => (if 24 + t248.size ≤ 9223372036854775807 then (some ((⟨#[98, 111, 117, 110, 100, 32, 111, 102, 32, 116, 121, 112, 101, 32, 112, 97, 114, 97, 109, 101, 116, 101, 114, 32]⟩ : ByteArray) ++ t248)) else (none))))))) = some r := H
        have A26 := Aside0.mk A260
        clear A260
        replace H := Option.bind_eq_some_iff.mp H
        obtain ⟨⟨t232, t233⟩, A270, H⟩ := H
        replace H : ((cavilref07_Add.f k t228 t229 t232 t233).bind fun bt236 => ((cavilref07_Small.f k (-1)).bind fun bt240 => ((cavilref07_Sub.f k bt240.1 bt240.2 bt236.1 bt236.2).bind fun bt244 => ((cavilref07_Text.f bt244.1 bt244.2).bind fun t248 => (if 24 + t248.size ≤ 9223372036854775807 then (some ((⟨#[98, 111, 117, 110, 100, 32, 111, 102, 32, 116, 121, 112, 101, 32, 112, 97, 114, 97, 109, 101, 116, 101, 114, 32]⟩ : ByteArray) ++ t248)) else (none)))))) = some r := H
        have A27 := Aside0.mk A270
        clear A270
        replace H := Option.bind_eq_some_iff.mp H
        obtain ⟨⟨t236, t237⟩, A280, H⟩ := H
        replace H : ((cavilref07_Small.f k (-1)).bind fun bt240 => ((cavilref07_Sub.f k bt240.1 bt240.2 t236 t237).bind fun bt244 => ((cavilref07_Text.f bt244.1 bt244.2).bind fun t248 => (if 24 + t248.size ≤ 9223372036854775807 then (some ((⟨#[98, 111, 117, 110, 100, 32, 111, 102, 32, 116, 121, 112, 101, 32, 112, 97, 114, 97, 109, 101, 116, 101, 114, 32]⟩ : ByteArray) ++ t248)) else (none))))) = some r := H
        have A28 := Aside0.mk A280
        clear A280
        replace H := Option.bind_eq_some_iff.mp H
        obtain ⟨⟨t240, t241⟩, A290, H⟩ := H
        replace H : ((cavilref07_Sub.f k t240 t241 t236 t237).bind fun bt244 => ((cavilref07_Text.f bt244.1 bt244.2).bind fun t248 => (if 24 + t248.size ≤ 9223372036854775807 then (some ((⟨#[98, 111, 117, 110, 100, 32, 111, 102, 32, 116, 121, 112, 101, 32, 112, 97, 114, 97, 109, 101, 116, 101, 114, 32]⟩ : ByteArray) ++ t248)) else (none)))) = some r := H
        have A29 := Aside0.mk A290
        clear A290
        replace H := Option.bind_eq_some_iff.mp H
        obtain ⟨⟨t244, t245⟩, A300, H⟩ := H
        replace H : ((cavilref07_Text.f t244 t245).bind fun t248 => (if 24 + t248.size ≤ 9223372036854775807 then (some ((⟨#[98, 111, 117, 110, 100, 32, 111, 102, 32, 116, 121, 112, 101, 32, 112, 97, 114, 97, 109, 101, 116, 101, 114, 32]⟩ : ByteArray) ++ t248)) else (none))) = some r := H
        have A30 := Aside0.mk A300
        clear A300
        replace H := Option.bind_eq_some_iff.mp H
        obtain ⟨t248, A310, H⟩ := H
        replace H : (if 24 + t248.size ≤ 9223372036854775807 then (some ((⟨#[98, 111, 117, 110, 100, 32, 111, 102, 32, 116, 121, 112, 101, 32, 112, 97, 114, 97, 109, 101, 116, 101, 114, 32]⟩ : ByteArray) ++ t248)) else (none)) = some r := H
        have A31 := Aside0.mk A310
        clear A310
        by_cases c32 : 24 + t248.size ≤ 9223372036854775807
        · rw [if_pos c32] at H
          have c32b0 := eq_true c32
          have c32b1 : decide (24 + t248.size ≤ 9223372036854775807) = true := decide_eq_true c32
          try have c32b2 : (9223372036854775807 < 24 + t248.size) = False := eq_false (Nat.not_lt.2 c32)
          obtain rfl := Option.some.inj H
          go_enter Tryd.func30, Tryd.ntmps30
          try go_wp2_with (first | ((with_reducible refine gate_callee (f := 56) rfl ?_); refine goesL_ (some 5) rfl rfl Tryd.func56 (by kernel_rfl) rfl #[.int .i64 a0] rfl (by (try simp only [List.map_toArray, List.map_cons, List.map_nil]); first | done | rfl | (simp only [List.length_drop, List.length_take]; rfl)) ?_; (with_reducible refine (cavilref07_Small.calls k a0 t210 t211 _ A2.out).mono ?_); rintro e w33 ⟨v212, rfl, ho0, hb⟩; refine ⟨_, rfl, ?_⟩; have n0_ := Aside0.mk (Kd.V_lower (Kd.V_mono (ok' := fun k_ => True) ho0 (fun k_ hk_ => trivial)) (below_size (by repeat (first | (with_reducible first | exact HB.out | apply below_alloc | apply pw_below_drewN | apply below_drew1) | exact HB.out)))); have n1_ := Aside0.mk (below_step (by repeat (first | (with_reducible first | exact HB.out | apply below_alloc | apply pw_below_drewN | apply below_drew1) | exact HB.out)) hb); clear HB; have HO213 := n0_; have HB := n1_; clear n0_ n1_; (try clear hb); (try clear hb2); (try clear hk); (try clear hi); (try clear ho0)) | ((with_reducible refine gate_dst (N := 3) rfl ?_); refine box_event ?hg (N := 3) ?hd (cs := #[.bool false, .slice none 0 0]) (t := 93) ?hr ?_; (case hd => rfl); (case hg => rfl); (case hr => first | (go_simp; done) | (go_simp; rfl)); intro gb214 hg w34 hbox hb; have n0_ := Aside0.mk (Kd.V_below (Kd.V_elderB (by (with_reducible repeat (first | apply Kd.V_alloc | apply Kd.V_drewN | apply Kd.V_drew)); exact HO213.out) gb214 (Nat.le_of_eq hg.symm)) hb); have n1_ := Aside0.mk (below_step (by repeat (first | (with_reducible first | exact HB.out | apply below_alloc | apply pw_below_drewN | apply below_drew1) | exact HB.out)) hb); have n2_ := Aside0.mk (hbox); have n3_ := Aside0.mk ((by rw [hg]; exact (below_size (by repeat (first | (with_reducible first | exact HB.out | apply below_alloc | apply pw_below_drewN | apply below_drew1) | exact HB.out))) : w.heap.size ≤ gb214)); have n4_ := Aside0.mk ((by rw [hg]; exact (below_size (by repeat (first | (with_reducible first | exact HB.out | apply below_alloc | apply pw_below_drewN | apply below_drew1) | exact HB.out))) : w.heap.size ≤ gb214)); clear HO213; clear HB; have HO213 := n0_; have HB := n1_; have BK214 := n2_; have GW214 := n3_; have GE214 := n4_; clear n0_ n1_ n2_ n3_ n4_; clear hb hbox hg; have hcz35_0 : w34.cell? ⟨gb214, 0, none⟩ = some (.bool false) := (blk_cell BK214.out 0).trans rfl; have hcz35_1 : w34.cell? ⟨gb214, 1, none⟩ = some (.slice none 0 0) := (blk_cell BK214.out 1).trans rfl; have hfz35_0 := blk_frozen BK214.out 0; have hfz35_1 := blk_frozen BK214.out 1; obtain ⟨Ao36, co36, eo36⟩ := Kd.V_slice HO213.out; subst eo36) | ((with_reducible refine gate_callee (f := 60) rfl ?_); refine goesL_ (some 18) rfl rfl Tryd.func60 (by kernel_rfl) rfl #[.int .i64 62] rfl (by (try simp only [List.map_toArray, List.map_cons, List.map_nil]); first | done | rfl | (simp only [List.length_drop, List.length_take]; rfl)) ?_; (with_reducible refine (cavilref07_Power.calls 62 t224 t225 _ A25.out).mono ?_); rintro e w37 ⟨v226, rfl, ho0, hb⟩; refine ⟨_, rfl, ?_⟩; have n0_ := Aside0.mk (Kd.V_below (by (with_reducible repeat (first | apply Kd.V_alloc | apply Kd.V_drewN | apply Kd.V_drew)); exact (Kd.V_mono (Kd.V_far (p := ⟨gb214, 1, none⟩) (Kd.V_far (p := ⟨gb214, 0, none⟩) (Kd.V_mono HO213.out (fun k_ hk => (⟨hk, hk.2⟩ : _ ∧ k_ ≠ gb214))) (fun _ hk => hk.2) (.bool t210)) (fun _ hk => hk.2) (.slice Ao36 t211.length co36)) (fun _ h_ => h_.1))) hb); have n1_ := Aside0.mk (Kd.V_lower (Kd.V_mono (ok' := fun k_ => k_ ≠ gb214) ho0 (fun k_ hk_ => (Kd.freshB (g := gb214) (o := .cells #[.bool t210, .slice Ao36 t211.length co36] 93 (0, 0)) (by (with_reducible repeat (first | refine blk_drewN ?_ _ | refine blk_drew ?_ | refine blk_alloc ?_ _)); refine blk_put (cs := #[.bool t210, .slice none 0 0]) ?_ 1 _ rfl; (with_reducible repeat (first | refine blk_drewN ?_ _ | refine blk_drew ?_ | refine blk_alloc ?_ _)); refine blk_put (cs := #[.bool false, .slice none 0 0]) ?_ 0 _ rfl; (with_reducible repeat (first | refine blk_drewN ?_ _ | refine blk_drew ?_ | refine blk_alloc ?_ _)); exact BK214.out) k_ hk_))) (below_size (by repeat (first | (with_reducible first | exact HB.out | apply below_alloc | apply pw_below_drewN | apply below_drew1 | refine below_set ?_ GE214.out) | exact HB.out)))); have n2_ := Aside0.mk (blk_below (g := gb214) (o := .cells #[.bool t210, .slice Ao36 t211.length co36] 93 (0, 0)) (by (with_reducible repeat (first | refine blk_drewN ?_ _ | refine blk_drew ?_ | refine blk_alloc ?_ _)); refine blk_put (cs := #[.bool t210, .slice none 0 0]) ?_ 1 _ rfl; (with_reducible repeat (first | refine blk_drewN ?_ _ | refine blk_drew ?_ | refine blk_alloc ?_ _)); refine blk_put (cs := #[.bool false, .slice none 0 0]) ?_ 0 _ rfl; (with_reducible repeat (first | refine blk_drewN ?_ _ | refine blk_drew ?_ | refine blk_alloc ?_ _)); exact BK214.out) hb); have n3_ := Aside0.mk (below_step (by repeat (first | (with_reducible first | exact HB.out | apply below_alloc | apply pw_below_drewN | apply below_drew1 | refine below_set ?_ GE214.out) | exact HB.out)) hb); clear HO213; clear BK214; clear HB; have HO213 := n0_; have HO227 := n1_; have BK214 := n2_; have HB := n3_; clear n0_ n1_ n2_ n3_; (try clear hb); (try clear hb2); (try clear hk); (try clear hi); (try clear ho0); obtain ⟨Ao38, co38, eo38⟩ := Kd.V_slice HO227.out; subst eo38) | ((with_reducible refine gate_callee (f := 59) rfl ?_); refine goesL_ (some 19) rfl rfl Tryd.func59 (by kernel_rfl) rfl #[.agg #[.bool false, .slice none 0 0], .agg #[.bool t224, .slice Ao38 t225.length co38]] rfl (by (try simp only [List.map_toArray, List.map_cons, List.map_nil]); first | done | rfl | (simp only [List.length_drop, List.length_take]; rfl)) ?_; (refine (cavilref07_Sub.calls k false _ _ ([] : List Int) t224 (fun k_ => k_ ≠ gb214) _ _ t225 t228 t229 _ ?side1 ?side2 ?side3 A26.out).mono ?_); (case side1 => exact Kd.C_nil _ _); (case side2 => exact Nat.le_refl _); (case side3 => exact HO227.out); rintro e w39 ⟨v230, rfl, ho0, hb⟩; refine ⟨_, rfl, ?_⟩; have n0_ := Aside0.mk (Kd.V_below (by (with_reducible repeat (first | apply Kd.V_alloc | apply Kd.V_drewN | apply Kd.V_drew)); exact HO213.out) hb); have n1_ := Aside0.mk (Kd.V_below (by (with_reducible repeat (first | apply Kd.V_alloc | apply Kd.V_drewN | apply Kd.V_drew)); exact HO227.out) hb); have n2_ := Aside0.mk (Kd.V_lower (Kd.V_mono (ok' := fun k_ => k_ ≠ gb214) ho0 (fun k_ hk_ => Or.elim hk_ (fun hs_ => hs_) (fun hn_ => (Kd.freshB (g := gb214) (o := .cells #[.bool t210, .slice Ao36 t211.length co36] 93 (0, 0)) (by (with_reducible repeat (first | refine blk_drewN ?_ _ | refine blk_drew ?_ | refine blk_alloc ?_ _)); exact BK214.out) k_ hn_)))) (below_size (by repeat (first | (with_reducible first | exact HB.out | apply below_alloc | apply pw_below_drewN | apply below_drew1 | refine below_set ?_ GE214.out) | exact HB.out)))); have n3_ := Aside0.mk (blk_below (g := gb214) (o := .cells #[.bool t210, .slice Ao36 t211.length co36] 93 (0, 0)) (by (with_reducible repeat (first | refine blk_drewN ?_ _ | refine blk_drew ?_ | refine blk_alloc ?_ _)); exact BK214.out) hb); have n4_ := Aside0.mk (below_step (by repeat (first | (with_reducible first | exact HB.out | apply below_alloc | apply pw_below_drewN | apply below_drew1 | refine below_set ?_ GE214.out) | exact HB.out)) hb); clear HO213; clear HO227; clear BK214; clear HB; have HO213 := n0_; have HO227 := n1_; have HO231 := n2_; have BK214 := n3_; have HB := n4_; clear n0_ n1_ n2_ n3_ n4_; (try clear hb); (try clear hb2); (try clear hk); (try clear hi); (try clear ho0); have hcz40_0 : w39.cell? ⟨gb214, 0, none⟩ = some (.bool t210) := (blk_cell BK214.out 0).trans rfl; have hcz40_1 : w39.cell? ⟨gb214, 1, none⟩ = some (.slice Ao36 t211.length co36) := (blk_cell BK214.out 1).trans rfl; have hfz40_0 := blk_frozen BK214.out 0; have hfz40_1 := blk_frozen BK214.out 1; obtain ⟨Ao41, co41, eo41⟩ := Kd.V_slice HO231.out; subst eo41))
          have n0_ : Aside0 (Kd.V (Kd.int .i64) 3 ((w39.setCell ⟨gb214, 0, none⟩ (.bool t228)).setCell ⟨gb214, 1, none⟩ (.slice Ao41 t229.length co41)) w.heap.size (fun k_ => k_ ≠ gb214) (.slice Ao36 t211.length co36) t211) := ⟨by (with_reducible repeat (first | apply Kd.V_alloc | apply Kd.V_drewN | apply Kd.V_drew)); exact Kd.V_mono (Kd.V_far (p := ⟨gb214, 1, none⟩) (Kd.V_far (p := ⟨gb214, 0, none⟩) (Kd.V_mono HO213.out (fun k_ hk => (⟨hk, hk.2⟩ : _ ∧ k_ ≠ gb214))) (fun _ hk => hk.2) (.bool t228)) (fun _ hk => hk.2) (.slice Ao41 t229.length co41)) (fun _ hk => hk.1.2)⟩
          have n1_ : Aside0 (Kd.V (Kd.int .i64) 3 ((w39.setCell ⟨gb214, 0, none⟩ (.bool t228)).setCell ⟨gb214, 1, none⟩ (.slice Ao41 t229.length co41)) w.heap.size (fun k_ => k_ ≠ gb214) (.slice Ao38 t225.length co38) t225) := ⟨by (with_reducible repeat (first | apply Kd.V_alloc | apply Kd.V_drewN | apply Kd.V_drew)); exact Kd.V_mono (Kd.V_far (p := ⟨gb214, 1, none⟩) (Kd.V_far (p := ⟨gb214, 0, none⟩) (Kd.V_mono HO227.out (fun k_ hk => (⟨hk, hk⟩ : _ ∧ k_ ≠ gb214))) (fun _ hk => hk.2) (.bool t228)) (fun _ hk => hk.2) (.slice Ao41 t229.length co41)) (fun _ hk => hk.1)⟩
          have n2_ : Aside0 (Kd.V (Kd.int .i64) 3 ((w39.setCell ⟨gb214, 0, none⟩ (.bool t228)).setCell ⟨gb214, 1, none⟩ (.slice Ao41 t229.length co41)) w.heap.size (fun k_ => k_ ≠ gb214) (.slice Ao41 t229.length co41) t229) := ⟨by (with_reducible repeat (first | apply Kd.V_alloc | apply Kd.V_drewN | apply Kd.V_drew)); exact Kd.V_mono (Kd.V_far (p := ⟨gb214, 1, none⟩) (Kd.V_far (p := ⟨gb214, 0, none⟩) (Kd.V_mono HO231.out (fun k_ hk => (⟨hk, hk⟩ : _ ∧ k_ ≠ gb214))) (fun _ hk => hk.2) (.bool t228)) (fun _ hk => hk.2) (.slice Ao41 t229.length co41)) (fun _ hk => hk.1)⟩
          have n3_ : Aside0 (((w39.setCell ⟨gb214, 0, none⟩ (.bool t228)).setCell ⟨gb214, 1, none⟩ (.slice Ao41 t229.length co41)).heap[gb214]? = some (.cells #[.bool t228, .slice Ao41 t229.length co41] 93 (0, 0))) := ⟨by (with_reducible repeat (first | refine blk_drewN ?_ _ | refine blk_drew ?_ | refine blk_alloc ?_ _)); refine blk_put (cs := #[.bool t228, .slice Ao36 t211.length co36]) ?_ 1 _ rfl; (with_reducible repeat (first | refine blk_drewN ?_ _ | refine blk_drew ?_ | refine blk_alloc ?_ _)); refine blk_put (cs := #[.bool t210, .slice Ao36 t211.length co36]) ?_ 0 _ rfl; (with_reducible repeat (first | refine blk_drewN ?_ _ | refine blk_drew ?_ | refine blk_alloc ?_ _)); exact BK214.out⟩
          have n4_ : Aside0 (Below w.heap.size w ((w39.setCell ⟨gb214, 0, none⟩ (.bool t228)).setCell ⟨gb214, 1, none⟩ (.slice Ao41 t229.length co41))) := ⟨by repeat (first | (with_reducible first | exact HB.out | apply below_alloc | apply pw_below_drewN | apply below_drew1 | refine below_set ?_ GE214.out) | exact HB.out)⟩
          (try clear HO213)
          (try clear HO227)
          (try clear HO231)
          (try clear BK214)
          (try clear HB)
          generalize ((w39.setCell ⟨gb214, 0, none⟩ (.bool t228)).setCell ⟨gb214, 1, none⟩ (.slice Ao41 t229.length co41)) = w42 at n0_ n1_ n2_ n3_ n4_ ⊢
          have HO213 := n0_
          have HO227 := n1_
          have HO231 := n2_
          have BK214 := n3_
          have HB := n4_
          clear n0_ n1_ n2_ n3_ n4_
          have n0_ := Aside0.mk (Kd.V_drew HO213.out)
          have n1_ := Aside0.mk (Kd.V_drew HO227.out)
          have n2_ := Aside0.mk (Kd.V_drew HO231.out)
          have n3_ := Aside0.mk (blk_drew BK214.out)
          have n4_ := Aside0.mk (below_drew1 HB.out)
          clear HO213
          clear HO227
          clear HO231
          clear BK214
          clear HB
          have HO213 := n0_
          have HO227 := n1_
          have HO231 := n2_
          have BK214 := n3_
          have HB := n4_
          clear n0_ n1_ n2_ n3_ n4_
          refine start_ (n := 6) (S := fun w' => w'.cell? ⟨gb214, 0, none⟩ = some (.bool t228) ∧ w'.cell? ⟨gb214, 1, none⟩ = some (.slice Ao41 t229.length co41)) (ds := [5]) #[false, false, false, false, false, false] (by kernel_rfl) rfl rfl ⟨(blk_cell BK214.out 0).trans rfl, (blk_cell BK214.out 1).trans rfl⟩ (fun hHeld => ?_)
          generalize w42.drew = w43 at HO213 HO227 HO231 BK214 HB hHeld ⊢
          refine pure_ (i := 1) (N := some 21) (v := ?_) (a' := ?_) #[false, true, false, false, false, false] rfl rfl (by kernel_rfl) (fun _ _ _ h => h) (Or.inl ⟨by rfl, ?_⟩) ?_ ?_
          rotate_left
          · intro w'
            go_simp
            with_reducible rfl
          rotate_left
          · simp only [Act.put, List.setIfInBounds_toArray, List.set_cons_zero, List.set_cons_succ, i64_w, i32_w]
            rfl
          refine pure_ (i := 2) (N := some 22) (v := ?_) (a' := ?_) #[false, true, true, false, false, false] rfl rfl (by kernel_rfl) (fun _ _ _ h => h) (Or.inl ⟨by rfl, ?_⟩) ?_ ?_
          rotate_left
          · intro w'
            go_simp
            with_reducible rfl
          rotate_left
          · simp only [Act.put, List.setIfInBounds_toArray, List.set_cons_zero, List.set_cons_succ, i64_w, i32_w]
            rfl
          refine take_ (i := 0) (N := some 20) (v := ?_) (a' := ?_) #[true, true, true, false, false, false] rfl rfl (by kernel_rfl) (fun _ _ _ h => h) (Or.inl ⟨by rfl, ?_⟩) hHeld ?_ ?_
          rotate_left
          · rintro w' ⟨s0, s1⟩
            go_simp
            with_reducible rfl
          rotate_left
          · simp only [Act.put, List.setIfInBounds_toArray, List.set_cons_zero, List.set_cons_succ, i64_w, i32_w]
            rfl
          refine one_ (i := 3) (N := some 23) #[true, true, true, true, false, false] rfl rfl (by kernel_rfl) (by decide) (fun K hK => ?_)
          refine goes_ Tryd.func56 (by kernel_rfl) rfl #[.int .i64 (wrap64 (a0 + 4611686018427387904))] (by rfl) rfl rfl (by (try simp only [List.map_toArray, List.map_cons, List.map_nil]); first | done | rfl | (simp only [List.length_drop, List.length_take]; rfl)) ?_
          with_reducible refine (cavilref07_Small.calls k (wrap64 (a0 + 4611686018427387904)) t232 t233 _ A27.out).mono ?_
          rintro e w44 ⟨v234, rfl, ho0, hb⟩
          refine ⟨_, rfl, ?_⟩
          have n0_ := Aside0.mk (Kd.V_below (by (with_reducible repeat (first | apply Kd.V_alloc | apply Kd.V_drewN | apply Kd.V_drew)); exact HO213.out) hb)
          have n1_ := Aside0.mk (Kd.V_below (by (with_reducible repeat (first | apply Kd.V_alloc | apply Kd.V_drewN | apply Kd.V_drew)); exact HO227.out) hb)
          have n2_ := Aside0.mk (Kd.V_below (by (with_reducible repeat (first | apply Kd.V_alloc | apply Kd.V_drewN | apply Kd.V_drew)); exact HO231.out) hb)
          have n3_ := Aside0.mk (Kd.V_lower (Kd.V_mono (ok' := fun k_ => k_ ≠ gb214) ho0 (fun k_ hk_ => (Kd.freshB (g := gb214) (o := .cells #[.bool t228, .slice Ao41 t229.length co41] 93 (0, 0)) (by (with_reducible repeat (first | refine blk_drewN ?_ _ | refine blk_drew ?_ | refine blk_alloc ?_ _)); exact BK214.out) k_ hk_))) (below_size (by repeat (first | (with_reducible first | exact HB.out | apply below_alloc | apply pw_below_drewN | apply below_drew1 | refine below_set ?_ GE214.out) | exact HB.out))))
          have n4_ := Aside0.mk (blk_below (g := gb214) (o := .cells #[.bool t228, .slice Ao41 t229.length co41] 93 (0, 0)) (by (with_reducible repeat (first | refine blk_drewN ?_ _ | refine blk_drew ?_ | refine blk_alloc ?_ _)); exact BK214.out) hb)
          have n5_ := Aside0.mk (below_step (by repeat (first | (with_reducible first | exact HB.out | apply below_alloc | apply pw_below_drewN | apply below_drew1 | refine below_set ?_ GE214.out) | exact HB.out)) hb)
          clear HO213
          clear HO227
          clear HO231
          clear BK214
          clear HB
          have HO213 := n0_
          have HO227 := n1_
          have HO231 := n2_
          have HO235 := n3_
          have BK214 := n4_
          have HB := n5_
          clear n0_ n1_ n2_ n3_ n4_ n5_
          (try clear hb)
          (try clear hb2)
          (try clear hk)
          (try clear hi)
          (try clear ho0)
          obtain ⟨Ao45, co45, eo45⟩ := Kd.V_slice HO235.out
          (first | subst eo45 | (injection eo45 with f1_ f2_ f3_; have f4_ := f1_.symm; have f5_ := f3_.symm; clear f1_ f2_ f3_; subst f4_; subst f5_))
          refine hK.out _ _ ⟨(blk_cell BK214.out 0).trans rfl, (blk_cell BK214.out 1).trans rfl⟩ (fun hHeld => ?_)
          clear hK K
          refine norm_ (a' := ?_) ?_ ?_
          rotate_left
          · show Act.put _ (some 23) _ = _
            simp only [Act.put, List.setIfInBounds_toArray, List.set_cons_zero, List.set_cons_succ, i64_w, i32_w]
            rfl
          refine one_ (i := 4) (N := some 24) #[true, true, true, true, true, false] rfl rfl (by kernel_rfl) (by decide) (fun K hK => ?_)
          refine goes_ Tryd.func58 (by kernel_rfl) rfl #[.agg #[.bool t228, .slice Ao41 t229.length co41], .agg #[.bool t232, .slice Ao45 t233.length co45]] (by rfl) rfl rfl (by (try simp only [List.map_toArray, List.map_cons, List.map_nil]); first | done | rfl | (simp only [List.length_drop, List.length_take]; rfl)) ?_
          with_reducible refine (cavilref07_Add.calls k t228 _ _ t229 t232 _ _ t233 t236 t237 _ ?side1 ?side2 ?side3 ?side4 A28.out).mono ?_
          (case side1 => repeat (first | exact (Kd.V_reads' HO231.out).2.2 | (with_reducible refine Kd.C_alloc ?_ _) | (with_reducible refine Kd.C_drewN ?_ _) | (with_reducible refine Kd.C_drew ?_)))
          (case side2 => exact (Kd.V_reads' HO231.out).2.1)
          (case side3 => repeat (first | exact (Kd.V_reads' HO235.out).2.2 | (with_reducible refine Kd.C_alloc ?_ _) | (with_reducible refine Kd.C_drewN ?_ _) | (with_reducible refine Kd.C_drew ?_)))
          (case side4 => exact (Kd.V_reads' HO235.out).2.1)
          rintro e w46 ⟨v238, rfl, ho0, hb⟩
          refine ⟨_, rfl, ?_⟩
          have n0_ := Aside0.mk (Kd.V_below (by (with_reducible repeat (first | apply Kd.V_alloc | apply Kd.V_drewN | apply Kd.V_drew)); exact HO213.out) hb)
          have n1_ := Aside0.mk (Kd.V_below (by (with_reducible repeat (first | apply Kd.V_alloc | apply Kd.V_drewN | apply Kd.V_drew)); exact HO227.out) hb)
          have n2_ := Aside0.mk (Kd.V_below (by (with_reducible repeat (first | apply Kd.V_alloc | apply Kd.V_drewN | apply Kd.V_drew)); exact HO231.out) hb)
          have n3_ := Aside0.mk (Kd.V_below (by (with_reducible repeat (first | apply Kd.V_alloc | apply Kd.V_drewN | apply Kd.V_drew)); exact HO235.out) hb)
          have n4_ := Aside0.mk (Kd.V_lower (Kd.V_mono (ok' := fun k_ => k_ ≠ gb214) ho0 (fun k_ hk_ => (Kd.freshB (g := gb214) (o := .cells #[.bool t228, .slice Ao41 t229.length co41] 93 (0, 0)) (by (with_reducible repeat (first | refine blk_drewN ?_ _ | refine blk_drew ?_ | refine blk_alloc ?_ _)); exact BK214.out) k_ hk_))) (below_size (by repeat (first | (with_reducible first | exact HB.out | apply below_alloc | apply pw_below_drewN | apply below_drew1 | refine below_set ?_ GE214.out) | exact HB.out))))
          have n5_ := Aside0.mk (blk_below (g := gb214) (o := .cells #[.bool t228, .slice Ao41 t229.length co41] 93 (0, 0)) (by (with_reducible repeat (first | refine blk_drewN ?_ _ | refine blk_drew ?_ | refine blk_alloc ?_ _)); exact BK214.out) hb)
          have n6_ := Aside0.mk (below_step (by repeat (first | (with_reducible first | exact HB.out | apply below_alloc | apply pw_below_drewN | apply below_drew1 | refine below_set ?_ GE214.out) | exact HB.out)) hb)
          clear HO213
          clear HO227
          clear HO231
          clear HO235
          clear BK214
          clear HB
          have HO213 := n0_
          have HO227 := n1_
          have HO231 := n2_
          have HO235 := n3_
          have HO239 := n4_
          have BK214 := n5_
          have HB := n6_
          clear n0_ n1_ n2_ n3_ n4_ n5_ n6_
          (try clear hb)
          (try clear hb2)
          (try clear hk)
          (try clear hi)
          (try clear ho0)
          obtain ⟨Ao48, co48, eo48⟩ := Kd.V_slice HO239.out
          (first | subst eo48 | (injection eo48 with f1_ f2_ f3_; have f4_ := f1_.symm; have f5_ := f3_.symm; clear f1_ f2_ f3_; subst f4_; subst f5_))
          refine hK.out _ _ ⟨(blk_cell BK214.out 0).trans rfl, (blk_cell BK214.out 1).trans rfl⟩ (fun hHeld => ?_)
          clear hK K
          refine norm_ (a' := ?_) ?_ ?_
          rotate_left
          · show Act.put _ (some 24) _ = _
            simp only [Act.put, List.setIfInBounds_toArray, List.set_cons_zero, List.set_cons_succ, i64_w, i32_w]
            rfl
          refine last_ (i := 5) (N := none) #[true, true, true, true, true, true] rfl rfl (by kernel_rfl) (by decide) (fun K hK => ?_)
          have hs47 : w46.cell? ⟨gb214, 0, none⟩ = some (.bool t228) := (blk_cell BK214.out 0).trans rfl
          have hfs47 := blk_frozen BK214.out 0
          have hs49 : w46.cell? ⟨gb214, 1, none⟩ = some (.slice Ao41 t229.length co41) := (blk_cell BK214.out 1).trans rfl
          have hfs49 := blk_frozen BK214.out 1
          refine skip_ (w1 := ?_) (by rfl) rfl ?_ ?_
          rotate_left
          · go_simp
            rfl
          refine hK.out _ _ ?_
          clear hK K
          refine done_ (by kernel_rfl) ?_
          try go_wp2
          have n0_ : Aside0 (Kd.V (Kd.int .i64) 3 ((w46.setCell ⟨gb214, 0, none⟩ (.bool t236)).setCell ⟨gb214, 1, none⟩ (.slice Ao48 t237.length co48)) w.heap.size (fun k_ => k_ ≠ gb214) (.slice Ao36 t211.length co36) t211) := ⟨by (with_reducible repeat (first | apply Kd.V_alloc | apply Kd.V_drewN | apply Kd.V_drew)); exact Kd.V_mono (Kd.V_far (p := ⟨gb214, 1, none⟩) (Kd.V_far (p := ⟨gb214, 0, none⟩) (Kd.V_mono HO213.out (fun k_ hk => (⟨hk, hk⟩ : _ ∧ k_ ≠ gb214))) (fun _ hk => hk.2) (.bool t236)) (fun _ hk => hk.2) (.slice Ao48 t237.length co48)) (fun _ hk => hk.1)⟩
          have n1_ : Aside0 (Kd.V (Kd.int .i64) 3 ((w46.setCell ⟨gb214, 0, none⟩ (.bool t236)).setCell ⟨gb214, 1, none⟩ (.slice Ao48 t237.length co48)) w.heap.size (fun k_ => k_ ≠ gb214) (.slice Ao38 t225.length co38) t225) := ⟨by (with_reducible repeat (first | apply Kd.V_alloc | apply Kd.V_drewN | apply Kd.V_drew)); exact Kd.V_mono (Kd.V_far (p := ⟨gb214, 1, none⟩) (Kd.V_far (p := ⟨gb214, 0, none⟩) (Kd.V_mono HO227.out (fun k_ hk => (⟨hk, hk⟩ : _ ∧ k_ ≠ gb214))) (fun _ hk => hk.2) (.bool t236)) (fun _ hk => hk.2) (.slice Ao48 t237.length co48)) (fun _ hk => hk.1)⟩
          have n2_ : Aside0 (Kd.V (Kd.int .i64) 3 ((w46.setCell ⟨gb214, 0, none⟩ (.bool t236)).setCell ⟨gb214, 1, none⟩ (.slice Ao48 t237.length co48)) w.heap.size (fun k_ => k_ ≠ gb214) (.slice Ao41 t229.length co41) t229) := ⟨by (with_reducible repeat (first | apply Kd.V_alloc | apply Kd.V_drewN | apply Kd.V_drew)); exact Kd.V_mono (Kd.V_far (p := ⟨gb214, 1, none⟩) (Kd.V_far (p := ⟨gb214, 0, none⟩) (Kd.V_mono HO231.out (fun k_ hk => (⟨hk, hk⟩ : _ ∧ k_ ≠ gb214))) (fun _ hk => hk.2) (.bool t236)) (fun _ hk => hk.2) (.slice Ao48 t237.length co48)) (fun _ hk => hk.1)⟩
          have n3_ : Aside0 (Kd.V (Kd.int .i64) 3 ((w46.setCell ⟨gb214, 0, none⟩ (.bool t236)).setCell ⟨gb214, 1, none⟩ (.slice Ao48 t237.length co48)) w.heap.size (fun k_ => k_ ≠ gb214) (.slice Ao45 t233.length co45) t233) := ⟨by (with_reducible repeat (first | apply Kd.V_alloc | apply Kd.V_drewN | apply Kd.V_drew)); exact Kd.V_mono (Kd.V_far (p := ⟨gb214, 1, none⟩) (Kd.V_far (p := ⟨gb214, 0, none⟩) (Kd.V_mono HO235.out (fun k_ hk => (⟨hk, hk⟩ : _ ∧ k_ ≠ gb214))) (fun _ hk => hk.2) (.bool t236)) (fun _ hk => hk.2) (.slice Ao48 t237.length co48)) (fun _ hk => hk.1)⟩
          have n4_ : Aside0 (Kd.V (Kd.int .i64) 3 ((w46.setCell ⟨gb214, 0, none⟩ (.bool t236)).setCell ⟨gb214, 1, none⟩ (.slice Ao48 t237.length co48)) w.heap.size (fun k_ => k_ ≠ gb214) (.slice Ao48 t237.length co48) t237) := ⟨by (with_reducible repeat (first | apply Kd.V_alloc | apply Kd.V_drewN | apply Kd.V_drew)); exact Kd.V_mono (Kd.V_far (p := ⟨gb214, 1, none⟩) (Kd.V_far (p := ⟨gb214, 0, none⟩) (Kd.V_mono HO239.out (fun k_ hk => (⟨hk, hk⟩ : _ ∧ k_ ≠ gb214))) (fun _ hk => hk.2) (.bool t236)) (fun _ hk => hk.2) (.slice Ao48 t237.length co48)) (fun _ hk => hk.1)⟩
          have n5_ : Aside0 (((w46.setCell ⟨gb214, 0, none⟩ (.bool t236)).setCell ⟨gb214, 1, none⟩ (.slice Ao48 t237.length co48)).heap[gb214]? = some (.cells #[.bool t236, .slice Ao48 t237.length co48] 93 (0, 0))) := ⟨by (with_reducible repeat (first | refine blk_drewN ?_ _ | refine blk_drew ?_ | refine blk_alloc ?_ _)); refine blk_put (cs := #[.bool t236, .slice Ao41 t229.length co41]) ?_ 1 _ rfl; (with_reducible repeat (first | refine blk_drewN ?_ _ | refine blk_drew ?_ | refine blk_alloc ?_ _)); refine blk_put (cs := #[.bool t228, .slice Ao41 t229.length co41]) ?_ 0 _ rfl; (with_reducible repeat (first | refine blk_drewN ?_ _ | refine blk_drew ?_ | refine blk_alloc ?_ _)); exact BK214.out⟩
          have n6_ : Aside0 (Below w.heap.size w ((w46.setCell ⟨gb214, 0, none⟩ (.bool t236)).setCell ⟨gb214, 1, none⟩ (.slice Ao48 t237.length co48))) := ⟨by repeat (first | (with_reducible first | exact HB.out | apply below_alloc | apply pw_below_drewN | apply below_drew1 | refine below_set ?_ GE214.out) | exact HB.out)⟩
          (try clear HO213)
          (try clear HO227)
          (try clear HO231)
          (try clear HO235)
          (try clear HO239)
          (try clear BK214)
          (try clear HB)
          generalize ((w46.setCell ⟨gb214, 0, none⟩ (.bool t236)).setCell ⟨gb214, 1, none⟩ (.slice Ao48 t237.length co48)) = w50 at n0_ n1_ n2_ n3_ n4_ n5_ n6_ ⊢
          have HO213 := n0_
          have HO227 := n1_
          have HO231 := n2_
          have HO235 := n3_
          have HO239 := n4_
          have BK214 := n5_
          have HB := n6_
          clear n0_ n1_ n2_ n3_ n4_ n5_ n6_
          have n0_ := Aside0.mk (Kd.V_drew HO213.out)
          have n1_ := Aside0.mk (Kd.V_drew HO227.out)
          have n2_ := Aside0.mk (Kd.V_drew HO231.out)
          have n3_ := Aside0.mk (Kd.V_drew HO235.out)
          have n4_ := Aside0.mk (Kd.V_drew HO239.out)
          have n5_ := Aside0.mk (blk_drew BK214.out)
          have n6_ := Aside0.mk (below_drew1 HB.out)
          clear HO213
          clear HO227
          clear HO231
          clear HO235
          clear HO239
          clear BK214
          clear HB
          have HO213 := n0_
          have HO227 := n1_
          have HO231 := n2_
          have HO235 := n3_
          have HO239 := n4_
          have BK214 := n5_
          have HB := n6_
          clear n0_ n1_ n2_ n3_ n4_ n5_ n6_
          refine start_ (n := 6) (S := fun w' => w'.cell? ⟨gb214, 0, none⟩ = some (.bool t236) ∧ w'.cell? ⟨gb214, 1, none⟩ = some (.slice Ao48 t237.length co48)) (ds := []) #[false, false, false, false, false, false] (by kernel_rfl) rfl rfl ⟨(blk_cell BK214.out 0).trans rfl, (blk_cell BK214.out 1).trans rfl⟩ (fun hHeld => ?_)
          generalize w50.drew = w51 at HO213 HO227 HO231 HO235 HO239 BK214 HB hHeld ⊢
          refine take_ (i := 1) (N := some 26) (v := ?_) (a' := ?_) #[false, true, false, false, false, false] rfl rfl (by kernel_rfl) (fun _ _ _ h => h) (Or.inl ⟨by rfl, ?_⟩) hHeld ?_ ?_
          rotate_left
          · rintro w' ⟨s0, s1⟩
            go_simp
            with_reducible rfl
          rotate_left
          · simp only [Act.put, List.setIfInBounds_toArray, List.set_cons_zero, List.set_cons_succ, i64_w, i32_w]
            rfl
          refine one_ (i := 0) (N := some 25) #[true, true, false, false, false, false] rfl rfl (by kernel_rfl) (by decide) (fun K hK => ?_)
          refine goes_ Tryd.func56 (by kernel_rfl) rfl #[.int .i64 (-1)] (by rfl) rfl rfl (by (try simp only [List.map_toArray, List.map_cons, List.map_nil]); first | done | rfl | (simp only [List.length_drop, List.length_take]; rfl)) ?_
          with_reducible refine (cavilref07_Small.calls k (-1) t240 t241 _ A29.out).mono ?_
          rintro e w52 ⟨v242, rfl, ho0, hb⟩
          refine ⟨_, rfl, ?_⟩
          have n0_ := Aside0.mk (Kd.V_below (by (with_reducible repeat (first | apply Kd.V_alloc | apply Kd.V_drewN | apply Kd.V_drew)); exact HO213.out) hb)
          have n1_ := Aside0.mk (Kd.V_below (by (with_reducible repeat (first | apply Kd.V_alloc | apply Kd.V_drewN | apply Kd.V_drew)); exact HO227.out) hb)
          have n2_ := Aside0.mk (Kd.V_below (by (with_reducible repeat (first | apply Kd.V_alloc | apply Kd.V_drewN | apply Kd.V_drew)); exact HO231.out) hb)
          have n3_ := Aside0.mk (Kd.V_below (by (with_reducible repeat (first | apply Kd.V_alloc | apply Kd.V_drewN | apply Kd.V_drew)); exact HO235.out) hb)
          have n4_ := Aside0.mk (Kd.V_below (by (with_reducible repeat (first | apply Kd.V_alloc | apply Kd.V_drewN | apply Kd.V_drew)); exact HO239.out) hb)
          have n5_ := Aside0.mk (Kd.V_lower (Kd.V_mono (ok' := fun k_ => k_ ≠ gb214) ho0 (fun k_ hk_ => (Kd.freshB (g := gb214) (o := .cells #[.bool t236, .slice Ao48 t237.length co48] 93 (0, 0)) (by (with_reducible repeat (first | refine blk_drewN ?_ _ | refine blk_drew ?_ | refine blk_alloc ?_ _)); exact BK214.out) k_ hk_))) (below_size (by repeat (first | (with_reducible first | exact HB.out | apply below_alloc | apply pw_below_drewN | apply below_drew1 | refine below_set ?_ GE214.out) | exact HB.out))))
          have n6_ := Aside0.mk (blk_below (g := gb214) (o := .cells #[.bool t236, .slice Ao48 t237.length co48] 93 (0, 0)) (by (with_reducible repeat (first | refine blk_drewN ?_ _ | refine blk_drew ?_ | refine blk_alloc ?_ _)); exact BK214.out) hb)
          have n7_ := Aside0.mk (below_step (by repeat (first | (with_reducible first | exact HB.out | apply below_alloc | apply pw_below_drewN | apply below_drew1 | refine below_set ?_ GE214.out) | exact HB.out)) hb)
          clear HO213
          clear HO227
          clear HO231
          clear HO235
          clear HO239
          clear BK214
          clear HB
          have HO213 := n0_
          have HO227 := n1_
          have HO231 := n2_
          have HO235 := n3_
          have HO239 := n4_
          have HO243 := n5_
          have BK214 := n6_
          have HB := n7_
          clear n0_ n1_ n2_ n3_ n4_ n5_ n6_ n7_
          (try clear hb)
          (try clear hb2)
          (try clear hk)
          (try clear hi)
          (try clear ho0)
          obtain ⟨Ao53, co53, eo53⟩ := Kd.V_slice HO243.out
          (first | subst eo53 | (injection eo53 with f1_ f2_ f3_; have f4_ := f1_.symm; have f5_ := f3_.symm; clear f1_ f2_ f3_; subst f4_; subst f5_))
          refine hK.out _ _ ⟨(blk_cell BK214.out 0).trans rfl, (blk_cell BK214.out 1).trans rfl⟩ (fun hHeld => ?_)
          clear hK K
          refine norm_ (a' := ?_) ?_ ?_
          rotate_left
          · show Act.put _ (some 25) _ = _
            simp only [Act.put, List.setIfInBounds_toArray, List.set_cons_zero, List.set_cons_succ, i64_w, i32_w]
            rfl
          refine one_ (i := 2) (N := some 27) #[true, true, true, false, false, false] rfl rfl (by kernel_rfl) (by decide) (fun K hK => ?_)
          refine goes_ Tryd.func59 (by kernel_rfl) rfl #[.agg #[.bool t240, .slice Ao53 t241.length co53], .agg #[.bool t236, .slice Ao48 t237.length co48]] (by rfl) rfl rfl (by (try simp only [List.map_toArray, List.map_cons, List.map_nil]); first | done | rfl | (simp only [List.length_drop, List.length_take]; rfl)) ?_
          with_reducible refine (cavilref07_Sub.calls k t240 _ _ t241 t236 (fun k_ => k_ ≠ gb214) _ _ t237 t244 t245 _ ?side1 ?side2 ?side3 A30.out).mono ?_
          (case side1 => repeat (first | exact (Kd.V_reads' HO243.out).2.2 | (with_reducible refine Kd.C_alloc ?_ _) | (with_reducible refine Kd.C_drewN ?_ _) | (with_reducible refine Kd.C_drew ?_)))
          (case side2 => exact (Kd.V_reads' HO243.out).2.1)
          (case side3 => exact HO239.out)
          rintro e w54 ⟨v246, rfl, ho0, hb⟩
          refine ⟨_, rfl, ?_⟩
          have n0_ := Aside0.mk (Kd.V_below (by (with_reducible repeat (first | apply Kd.V_alloc | apply Kd.V_drewN | apply Kd.V_drew)); exact HO213.out) hb)
          have n1_ := Aside0.mk (Kd.V_below (by (with_reducible repeat (first | apply Kd.V_alloc | apply Kd.V_drewN | apply Kd.V_drew)); exact HO227.out) hb)
          have n2_ := Aside0.mk (Kd.V_below (by (with_reducible repeat (first | apply Kd.V_alloc | apply Kd.V_drewN | apply Kd.V_drew)); exact HO231.out) hb)
          have n3_ := Aside0.mk (Kd.V_below (by (with_reducible repeat (first | apply Kd.V_alloc | apply Kd.V_drewN | apply Kd.V_drew)); exact HO235.out) hb)
          have n4_ := Aside0.mk (Kd.V_below (by (with_reducible repeat (first | apply Kd.V_alloc | apply Kd.V_drewN | apply Kd.V_drew)); exact HO239.out) hb)
          have n5_ := Aside0.mk (Kd.V_below (by (with_reducible repeat (first | apply Kd.V_alloc | apply Kd.V_drewN | apply Kd.V_drew)); exact HO243.out) hb)
          have n6_ := Aside0.mk (Kd.V_lower (Kd.V_mono (ok' := fun k_ => k_ ≠ gb214) ho0 (fun k_ hk_ => Or.elim hk_ (fun hs_ => hs_) (fun hn_ => (Kd.freshB (g := gb214) (o := .cells #[.bool t236, .slice Ao48 t237.length co48] 93 (0, 0)) (by (with_reducible repeat (first | refine blk_drewN ?_ _ | refine blk_drew ?_ | refine blk_alloc ?_ _)); exact BK214.out) k_ hn_)))) (below_size (by repeat (first | (with_reducible first | exact HB.out | apply below_alloc | apply pw_below_drewN | apply below_drew1 | refine below_set ?_ GE214.out) | exact HB.out))))
          have n7_ := Aside0.mk (blk_below (g := gb214) (o := .cells #[.bool t236, .slice Ao48 t237.length co48] 93 (0, 0)) (by (with_reducible repeat (first | refine blk_drewN ?_ _ | refine blk_drew ?_ | refine blk_alloc ?_ _)); exact BK214.out) hb)
          have n8_ := Aside0.mk (below_step (by repeat (first | (with_reducible first | exact HB.out | apply below_alloc | apply pw_below_drewN | apply below_drew1 | refine below_set ?_ GE214.out) | exact HB.out)) hb)
          clear HO213
          clear HO227
          clear HO231
          clear HO235
          clear HO239
          clear HO243
          clear BK214
          clear HB
          have HO213 := n0_
          have HO227 := n1_
          have HO231 := n2_
          have HO235 := n3_
          have HO239 := n4_
          have HO243 := n5_
          have HO247 := n6_
          have BK214 := n7_
          have HB := n8_
          clear n0_ n1_ n2_ n3_ n4_ n5_ n6_ n7_ n8_
          (try clear hb)
          (try clear hb2)
          (try clear hk)
          (try clear hi)
          (try clear ho0)
          obtain ⟨Ao55, co55, eo55⟩ := Kd.V_slice HO247.out
          (first | subst eo55 | (injection eo55 with f1_ f2_ f3_; have f4_ := f1_.symm; have f5_ := f3_.symm; clear f1_ f2_ f3_; subst f4_; subst f5_))
          refine hK.out _ _ ⟨(blk_cell BK214.out 0).trans rfl, (blk_cell BK214.out 1).trans rfl⟩ (fun hHeld => ?_)
          clear hK K
          refine norm_ (a' := ?_) ?_ ?_
          rotate_left
          · show Act.put _ (some 27) _ = _
            simp only [Act.put, List.setIfInBounds_toArray, List.set_cons_zero, List.set_cons_succ, i64_w, i32_w]
            rfl
          refine one_ (i := 3) (N := some 28) #[true, true, true, true, false, false] rfl rfl (by kernel_rfl) (by decide) (fun K hK => ?_)
          refine goes_ Tryd.func57 (by kernel_rfl) rfl #[.agg #[.bool t244, .slice Ao55 t245.length co55]] (by rfl) rfl rfl (by (try simp only [List.map_toArray, List.map_cons, List.map_nil]); first | done | rfl | (simp only [List.length_drop, List.length_take]; rfl)) ?_
          with_reducible refine (cavilref07_Text.calls t244 _ _ t245 t248 _ ?side1 ?side2 A31.out).mono ?_
          (case side1 => repeat (first | exact (Kd.V_reads' HO247.out).2.2 | (with_reducible refine Kd.C_alloc ?_ _) | (with_reducible refine Kd.C_drewN ?_ _) | (with_reducible refine Kd.C_drew ?_)))
          (case side2 => exact (Kd.V_reads' HO247.out).2.1)
          rintro e w56 ⟨rfl, hb⟩
          refine ⟨_, rfl, ?_⟩
          have n0_ := Aside0.mk (Kd.V_below (by (with_reducible repeat (first | apply Kd.V_alloc | apply Kd.V_drewN | apply Kd.V_drew)); exact HO213.out) hb)
          have n1_ := Aside0.mk (Kd.V_below (by (with_reducible repeat (first | apply Kd.V_alloc | apply Kd.V_drewN | apply Kd.V_drew)); exact HO227.out) hb)
          have n2_ := Aside0.mk (Kd.V_below (by (with_reducible repeat (first | apply Kd.V_alloc | apply Kd.V_drewN | apply Kd.V_drew)); exact HO231.out) hb)
          have n3_ := Aside0.mk (Kd.V_below (by (with_reducible repeat (first | apply Kd.V_alloc | apply Kd.V_drewN | apply Kd.V_drew)); exact HO235.out) hb)
          have n4_ := Aside0.mk (Kd.V_below (by (with_reducible repeat (first | apply Kd.V_alloc | apply Kd.V_drewN | apply Kd.V_drew)); exact HO239.out) hb)
          have n5_ := Aside0.mk (Kd.V_below (by (with_reducible repeat (first | apply Kd.V_alloc | apply Kd.V_drewN | apply Kd.V_drew)); exact HO243.out) hb)
          have n6_ := Aside0.mk (Kd.V_below (by (with_reducible repeat (first | apply Kd.V_alloc | apply Kd.V_drewN | apply Kd.V_drew)); exact HO247.out) hb)
          have n7_ := Aside0.mk (blk_below (g := gb214) (o := .cells #[.bool t236, .slice Ao48 t237.length co48] 93 (0, 0)) (by (with_reducible repeat (first | refine blk_drewN ?_ _ | refine blk_drew ?_ | refine blk_alloc ?_ _)); exact BK214.out) hb)
          have n8_ := Aside0.mk (below_step (by repeat (first | (with_reducible first | exact HB.out | apply below_alloc | apply pw_below_drewN | apply below_drew1 | refine below_set ?_ GE214.out) | exact HB.out)) hb)
          clear HO213
          clear HO227
          clear HO231
          clear HO235
          clear HO239
          clear HO243
          clear HO247
          clear BK214
          clear HB
          have HO213 := n0_
          have HO227 := n1_
          have HO231 := n2_
          have HO235 := n3_
          have HO239 := n4_
          have HO243 := n5_
          have HO247 := n6_
          have BK214 := n7_
          have HB := n8_
          clear n0_ n1_ n2_ n3_ n4_ n5_ n6_ n7_ n8_
          (try clear hb)
          (try clear hb2)
          (try clear hk)
          (try clear hi)
          refine hK.out _ _ ⟨(blk_cell BK214.out 0).trans rfl, (blk_cell BK214.out 1).trans rfl⟩ (fun hHeld => ?_)
          clear hK K
          refine norm_ (a' := ?_) ?_ ?_
          rotate_left
          · show Act.put _ (some 28) _ = _
            simp only [Act.put, List.setIfInBounds_toArray, List.set_cons_zero, List.set_cons_succ, i64_w, i32_w]
            rfl
          refine pure_ (i := 4) (N := some 29) (v := ?_) (a' := ?_) #[true, true, true, true, true, false] rfl rfl (by kernel_rfl) (fun _ _ _ h => h) (Or.inl ⟨by rfl, ?_⟩) ?_ ?_
          rotate_left
          · intro w'
            go_simp
            with_reducible rfl
          rotate_left
          · simp only [Act.put, List.setIfInBounds_toArray, List.set_cons_zero, List.set_cons_succ, i64_w, i32_w]
            rfl
          refine pure_ (i := 5) (N := some 2) (v := ?_) (a' := ?_) #[true, true, true, true, true, true] rfl rfl (by kernel_rfl) (fun _ _ _ h => h) (Or.inl ⟨by rfl, ?_⟩) ?_ ?_
          rotate_left
          · intro w'
            go_simp
            with_reducible rfl
          rotate_left
          · simp only [Act.put, List.setIfInBounds_toArray, List.set_cons_zero, List.set_cons_succ, i64_w, i32_w]
            rfl
          refine done_ (by kernel_rfl) ?_
          try go_wp2
          go_ret
          exact ⟨by first | rfl | (simp [errW_none, errW_some, erT_no, erV_no, erT_at, erV_at] <;> rfl) | (simp [*, errW_none, errW_some, erT_no, erV_no, erT_at, erV_at] <;> rfl), by repeat (first | (with_reducible first | exact HB.out | apply below_alloc | apply pw_below_drewN | apply below_drew1 | refine below_set ?_ GE214.out) | exact HB.out)⟩
        · rw [if_neg c32] at H
          exact absurd H (by simp)
      · rw [if_neg c24] at H
        have c24b0 : decide (a0 < (-4611686018427387904)) = false := decide_eq_false c24
        clear c24
        replace H := Option.bind_eq_some_iff.mp H
        obtain ⟨⟨t249, t250⟩, A570, H⟩ := H
        replace H : ((cavilref07_Sub.f k t249 t250 t210 t211).bind fun bt253 => ((cavilref07_Text.f bt253.1 bt253.2).bind fun t257 => (if 24 + t257.size ≤ 9223372036854775807 then (some ((⟨#[98, 111, 117, 110, 100, 32, 111, 102, 32, 116, 121, 112, 101, 32, 112, 97, 114, 97, 109, 101, 116, 101, 114, 32]⟩ : ByteArray) ++ t257)) else (none)))) = some r := H
        have A57 := Aside0.mk A570
        clear A570
        replace H := Option.bind_eq_some_iff.mp H
        obtain ⟨⟨t253, t254⟩, A580, H⟩ := H
        replace H : ((cavilref07_Text.f t253 t254).bind fun t257 => (if 24 + t257.size ≤ 9223372036854775807 then (some ((⟨#[98, 111, 117, 110, 100, 32, 111, 102, 32, 116, 121, 112, 101, 32, 112, 97, 114, 97, 109, 101, 116, 101, 114, 32]⟩ : ByteArray) ++ t257)) else (none))) = some r := H
        have A58 := Aside0.mk A580
        clear A580
        replace H := Option.bind_eq_some_iff.mp H
        obtain ⟨t257, A590, H⟩ := H
        replace H : (if 24 + t257.size ≤ 9223372036854775807 then (some ((⟨#[98, 111, 117, 110, 100, 32, 111, 102, 32, 116, 121, 112, 101, 32, 112, 97, 114, 97, 109, 101, 116, 101, 114, 32]⟩ : ByteArray) ++ t257)) else (none)) = some r := H
        have A59 := Aside0.mk A590
        clear A590
        by_cases c60 : 24 + t257.size ≤ 9223372036854775807
        · rw [if_pos c60] at H
          have c60b0 := eq_true c60
          have c60b1 : decide (24 + t257.size ≤ 9223372036854775807) = true := decide_eq_true c60
          try have c60b2 : (9223372036854775807 < 24 + t257.size) = False := eq_false (Nat.not_lt.2 c60)
          obtain rfl := Option.some.inj H
          go_enter Tryd.func30, Tryd.ntmps30
          try go_wp2_with (first | ((with_reducible refine gate_callee (f := 56) rfl ?_); refine goesL_ (some 5) rfl rfl Tryd.func56 (by kernel_rfl) rfl #[.int .i64 a0] rfl (by (try simp only [List.map_toArray, List.map_cons, List.map_nil]); first | done | rfl | (simp only [List.length_drop, List.length_take]; rfl)) ?_; (with_reducible refine (cavilref07_Small.calls k a0 t210 t211 _ A2.out).mono ?_); rintro e w61 ⟨v212, rfl, ho0, hb⟩; refine ⟨_, rfl, ?_⟩; have n0_ := Aside0.mk (Kd.V_lower (Kd.V_mono (ok' := fun k_ => True) ho0 (fun k_ hk_ => trivial)) (below_size (by repeat (first | (with_reducible first | exact HB.out | apply below_alloc | apply pw_below_drewN | apply below_drew1) | exact HB.out)))); have n1_ := Aside0.mk (below_step (by repeat (first | (with_reducible first | exact HB.out | apply below_alloc | apply pw_below_drewN | apply below_drew1) | exact HB.out)) hb); clear HB; have HO213 := n0_; have HB := n1_; clear n0_ n1_; (try clear hb); (try clear hb2); (try clear hk); (try clear hi); (try clear ho0)) | ((with_reducible refine gate_dst (N := 3) rfl ?_); refine box_event ?hg (N := 3) ?hd (cs := #[.bool false, .slice none 0 0]) (t := 93) ?hr ?_; (case hd => rfl); (case hg => rfl); (case hr => first | (go_simp; done) | (go_simp; rfl)); intro gb214 hg w62 hbox hb; have n0_ := Aside0.mk (Kd.V_below (Kd.V_elderB (by (with_reducible repeat (first | apply Kd.V_alloc | apply Kd.V_drewN | apply Kd.V_drew)); exact HO213.out) gb214 (Nat.le_of_eq hg.symm)) hb); have n1_ := Aside0.mk (below_step (by repeat (first | (with_reducible first | exact HB.out | apply below_alloc | apply pw_below_drewN | apply below_drew1) | exact HB.out)) hb); have n2_ := Aside0.mk (hbox); have n3_ := Aside0.mk ((by rw [hg]; exact (below_size (by repeat (first | (with_reducible first | exact HB.out | apply below_alloc | apply pw_below_drewN | apply below_drew1) | exact HB.out))) : w.heap.size ≤ gb214)); have n4_ := Aside0.mk ((by rw [hg]; exact (below_size (by repeat (first | (with_reducible first | exact HB.out | apply below_alloc | apply pw_below_drewN | apply below_drew1) | exact HB.out))) : w.heap.size ≤ gb214)); clear HO213; clear HB; have HO213 := n0_; have HB := n1_; have BK214 := n2_; have GW214 := n3_; have GE214 := n4_; clear n0_ n1_ n2_ n3_ n4_; clear hb hbox hg; have hcz63_0 : w62.cell? ⟨gb214, 0, none⟩ = some (.bool false) := (blk_cell BK214.out 0).trans rfl; have hcz63_1 : w62.cell? ⟨gb214, 1, none⟩ = some (.slice none 0 0) := (blk_cell BK214.out 1).trans rfl; have hfz63_0 := blk_frozen BK214.out 0; have hfz63_1 := blk_frozen BK214.out 1; obtain ⟨Ao64, co64, eo64⟩ := Kd.V_slice HO213.out; subst eo64))
          have n0_ : Aside0 (Kd.V (Kd.int .i64) 3 ((w62.setCell ⟨gb214, 0, none⟩ (.bool t210)).setCell ⟨gb214, 1, none⟩ (.slice Ao64 t211.length co64)) w.heap.size (fun k_ => k_ ≠ gb214) (.slice Ao64 t211.length co64) t211) := ⟨by (with_reducible repeat (first | apply Kd.V_alloc | apply Kd.V_drewN | apply Kd.V_drew)); exact Kd.V_mono (Kd.V_far (p := ⟨gb214, 1, none⟩) (Kd.V_far (p := ⟨gb214, 0, none⟩) (Kd.V_mono HO213.out (fun k_ hk => (⟨hk, hk.2⟩ : _ ∧ k_ ≠ gb214))) (fun _ hk => hk.2) (.bool t210)) (fun _ hk => hk.2) (.slice Ao64 t211.length co64)) (fun _ hk => hk.1.2)⟩
          have n1_ : Aside0 (((w62.setCell ⟨gb214, 0, none⟩ (.bool t210)).setCell ⟨gb214, 1, none⟩ (.slice Ao64 t211.length co64)).heap[gb214]? = some (.cells #[.bool t210, .slice Ao64 t211.length co64] 93 (0, 0))) := ⟨by (with_reducible repeat (first | refine blk_drewN ?_ _ | refine blk_drew ?_ | refine blk_alloc ?_ _)); refine blk_put (cs := #[.bool t210, .slice none 0 0]) ?_ 1 _ rfl; (with_reducible repeat (first | refine blk_drewN ?_ _ | refine blk_drew ?_ | refine blk_alloc ?_ _)); refine blk_put (cs := #[.bool false, .slice none 0 0]) ?_ 0 _ rfl; (with_reducible repeat (first | refine blk_drewN ?_ _ | refine blk_drew ?_ | refine blk_alloc ?_ _)); exact BK214.out⟩
          have n2_ : Aside0 (Below w.heap.size w ((w62.setCell ⟨gb214, 0, none⟩ (.bool t210)).setCell ⟨gb214, 1, none⟩ (.slice Ao64 t211.length co64))) := ⟨by repeat (first | (with_reducible first | exact HB.out | apply below_alloc | apply pw_below_drewN | apply below_drew1 | refine below_set ?_ GE214.out) | exact HB.out)⟩
          (try clear HO213)
          (try clear BK214)
          (try clear HB)
          generalize ((w62.setCell ⟨gb214, 0, none⟩ (.bool t210)).setCell ⟨gb214, 1, none⟩ (.slice Ao64 t211.length co64)) = w65 at n0_ n1_ n2_ ⊢
          have HO213 := n0_
          have BK214 := n1_
          have HB := n2_
          clear n0_ n1_ n2_
          have n0_ := Aside0.mk (Kd.V_drew HO213.out)
          have n1_ := Aside0.mk (blk_drew BK214.out)
          have n2_ := Aside0.mk (below_drew1 HB.out)
          clear HO213
          clear BK214
          clear HB
          have HO213 := n0_
          have BK214 := n1_
          have HB := n2_
          clear n0_ n1_ n2_
          refine start_ (n := 6) (S := fun w' => w'.cell? ⟨gb214, 0, none⟩ = some (.bool t210) ∧ w'.cell? ⟨gb214, 1, none⟩ = some (.slice Ao64 t211.length co64)) (ds := []) #[false, false, false, false, false, false] (by kernel_rfl) rfl rfl ⟨(blk_cell BK214.out 0).trans rfl, (blk_cell BK214.out 1).trans rfl⟩ (fun hHeld => ?_)
          generalize w65.drew = w66 at HO213 BK214 HB hHeld ⊢
          refine take_ (i := 1) (N := some 26) (v := ?_) (a' := ?_) #[false, true, false, false, false, false] rfl rfl (by kernel_rfl) (fun _ _ _ h => h) (Or.inl ⟨by rfl, ?_⟩) hHeld ?_ ?_
          rotate_left
          · rintro w' ⟨s0, s1⟩
            go_simp
            with_reducible rfl
          rotate_left
          · simp only [Act.put, List.setIfInBounds_toArray, List.set_cons_zero, List.set_cons_succ, i64_w, i32_w]
            rfl
          refine one_ (i := 0) (N := some 25) #[true, true, false, false, false, false] rfl rfl (by kernel_rfl) (by decide) (fun K hK => ?_)
          refine goes_ Tryd.func56 (by kernel_rfl) rfl #[.int .i64 (-1)] (by rfl) rfl rfl (by (try simp only [List.map_toArray, List.map_cons, List.map_nil]); first | done | rfl | (simp only [List.length_drop, List.length_take]; rfl)) ?_
          with_reducible refine (cavilref07_Small.calls k (-1) t249 t250 _ A57.out).mono ?_
          rintro e w67 ⟨v251, rfl, ho0, hb⟩
          refine ⟨_, rfl, ?_⟩
          have n0_ := Aside0.mk (Kd.V_below (by (with_reducible repeat (first | apply Kd.V_alloc | apply Kd.V_drewN | apply Kd.V_drew)); exact HO213.out) hb)
          have n1_ := Aside0.mk (Kd.V_lower (Kd.V_mono (ok' := fun k_ => k_ ≠ gb214) ho0 (fun k_ hk_ => (Kd.freshB (g := gb214) (o := .cells #[.bool t210, .slice Ao64 t211.length co64] 93 (0, 0)) (by (with_reducible repeat (first | refine blk_drewN ?_ _ | refine blk_drew ?_ | refine blk_alloc ?_ _)); exact BK214.out) k_ hk_))) (below_size (by repeat (first | (with_reducible first | exact HB.out | apply below_alloc | apply pw_below_drewN | apply below_drew1 | refine below_set ?_ GE214.out) | exact HB.out))))
          have n2_ := Aside0.mk (blk_below (g := gb214) (o := .cells #[.bool t210, .slice Ao64 t211.length co64] 93 (0, 0)) (by (with_reducible repeat (first | refine blk_drewN ?_ _ | refine blk_drew ?_ | refine blk_alloc ?_ _)); exact BK214.out) hb)
          have n3_ := Aside0.mk (below_step (by repeat (first | (with_reducible first | exact HB.out | apply below_alloc | apply pw_below_drewN | apply below_drew1 | refine below_set ?_ GE214.out) | exact HB.out)) hb)
          clear HO213
          clear BK214
          clear HB
          have HO213 := n0_
          have HO252 := n1_
          have BK214 := n2_
          have HB := n3_
          clear n0_ n1_ n2_ n3_
          (try clear hb)
          (try clear hb2)
          (try clear hk)
          (try clear hi)
          (try clear ho0)
          obtain ⟨Ao68, co68, eo68⟩ := Kd.V_slice HO252.out
          (first | subst eo68 | (injection eo68 with f1_ f2_ f3_; have f4_ := f1_.symm; have f5_ := f3_.symm; clear f1_ f2_ f3_; subst f4_; subst f5_))
          refine hK.out _ _ ⟨(blk_cell BK214.out 0).trans rfl, (blk_cell BK214.out 1).trans rfl⟩ (fun hHeld => ?_)
          clear hK K
          refine norm_ (a' := ?_) ?_ ?_
          rotate_left
          · show Act.put _ (some 25) _ = _
            simp only [Act.put, List.setIfInBounds_toArray, List.set_cons_zero, List.set_cons_succ, i64_w, i32_w]
            rfl
          refine one_ (i := 2) (N := some 27) #[true, true, true, false, false, false] rfl rfl (by kernel_rfl) (by decide) (fun K hK => ?_)
          refine goes_ Tryd.func59 (by kernel_rfl) rfl #[.agg #[.bool t249, .slice Ao68 t250.length co68], .agg #[.bool t210, .slice Ao64 t211.length co64]] (by rfl) rfl rfl (by (try simp only [List.map_toArray, List.map_cons, List.map_nil]); first | done | rfl | (simp only [List.length_drop, List.length_take]; rfl)) ?_
          with_reducible refine (cavilref07_Sub.calls k t249 _ _ t250 t210 (fun k_ => k_ ≠ gb214) _ _ t211 t253 t254 _ ?side1 ?side2 ?side3 A58.out).mono ?_
          (case side1 => repeat (first | exact (Kd.V_reads' HO252.out).2.2 | (with_reducible refine Kd.C_alloc ?_ _) | (with_reducible refine Kd.C_drewN ?_ _) | (with_reducible refine Kd.C_drew ?_)))
          (case side2 => exact (Kd.V_reads' HO252.out).2.1)
          (case side3 => exact HO213.out)
          rintro e w69 ⟨v255, rfl, ho0, hb⟩
          refine ⟨_, rfl, ?_⟩
          have n0_ := Aside0.mk (Kd.V_below (by (with_reducible repeat (first | apply Kd.V_alloc | apply Kd.V_drewN | apply Kd.V_drew)); exact HO213.out) hb)
          have n1_ := Aside0.mk (Kd.V_below (by (with_reducible repeat (first | apply Kd.V_alloc | apply Kd.V_drewN | apply Kd.V_drew)); exact HO252.out) hb)
          have n2_ := Aside0.mk (Kd.V_lower (Kd.V_mono (ok' := fun k_ => k_ ≠ gb214) ho0 (fun k_ hk_ => Or.elim hk_ (fun hs_ => hs_) (fun hn_ => (Kd.freshB (g := gb214) (o := .cells #[.bool t210, .slice Ao64 t211.length co64] 93 (0, 0)) (by (with_reducible repeat (first | refine blk_drewN ?_ _ | refine blk_drew ?_ | refine blk_alloc ?_ _)); exact BK214.out) k_ hn_)))) (below_size (by repeat (first | (with_reducible first | exact HB.out | apply below_alloc | apply pw_below_drewN | apply below_drew1 | refine below_set ?_ GE214.out) | exact HB.out))))
          have n3_ := Aside0.mk (blk_below (g := gb214) (o := .cells #[.bool t210, .slice Ao64 t211.length co64] 93 (0, 0)) (by (with_reducible repeat (first | refine blk_drewN ?_ _ | refine blk_drew ?_ | refine blk_alloc ?_ _)); exact BK214.out) hb)
          have n4_ := Aside0.mk (below_step (by repeat (first | (with_reducible first | exact HB.out | apply below_alloc | apply pw_below_drewN | apply below_drew1 | refine below_set ?_ GE214.out) | exact HB.out)) hb)
          clear HO213
          clear HO252
          clear BK214
          clear HB
          have HO213 := n0_
          have HO252 := n1_
          have HO256 := n2_
          have BK214 := n3_
          have HB := n4_
          clear n0_ n1_ n2_ n3_ n4_
          (try clear hb)
          (try clear hb2)
          (try clear hk)
          (try clear hi)
          (try clear ho0)
          obtain ⟨Ao70, co70, eo70⟩ := Kd.V_slice HO256.out
          (first | subst eo70 | (injection eo70 with f1_ f2_ f3_; have f4_ := f1_.symm; have f5_ := f3_.symm; clear f1_ f2_ f3_; subst f4_; subst f5_))
          refine hK.out _ _ ⟨(blk_cell BK214.out 0).trans rfl, (blk_cell BK214.out 1).trans rfl⟩ (fun hHeld => ?_)
          clear hK K
          refine norm_ (a' := ?_) ?_ ?_
          rotate_left
          · show Act.put _ (some 27) _ = _
            simp only [Act.put, List.setIfInBounds_toArray, List.set_cons_zero, List.set_cons_succ, i64_w, i32_w]
            rfl
          refine one_ (i := 3) (N := some 28) #[true, true, true, true, false, false] rfl rfl (by kernel_rfl) (by decide) (fun K hK => ?_)
          refine goes_ Tryd.func57 (by kernel_rfl) rfl #[.agg #[.bool t253, .slice Ao70 t254.length co70]] (by rfl) rfl rfl (by (try simp only [List.map_toArray, List.map_cons, List.map_nil]); first | done | rfl | (simp only [List.length_drop, List.length_take]; rfl)) ?_
          with_reducible refine (cavilref07_Text.calls t253 _ _ t254 t257 _ ?side1 ?side2 A59.out).mono ?_
          (case side1 => repeat (first | exact (Kd.V_reads' HO256.out).2.2 | (with_reducible refine Kd.C_alloc ?_ _) | (with_reducible refine Kd.C_drewN ?_ _) | (with_reducible refine Kd.C_drew ?_)))
          (case side2 => exact (Kd.V_reads' HO256.out).2.1)
          rintro e w71 ⟨rfl, hb⟩
          refine ⟨_, rfl, ?_⟩
          have n0_ := Aside0.mk (Kd.V_below (by (with_reducible repeat (first | apply Kd.V_alloc | apply Kd.V_drewN | apply Kd.V_drew)); exact HO213.out) hb)
          have n1_ := Aside0.mk (Kd.V_below (by (with_reducible repeat (first | apply Kd.V_alloc | apply Kd.V_drewN | apply Kd.V_drew)); exact HO252.out) hb)
          have n2_ := Aside0.mk (Kd.V_below (by (with_reducible repeat (first | apply Kd.V_alloc | apply Kd.V_drewN | apply Kd.V_drew)); exact HO256.out) hb)
          have n3_ := Aside0.mk (blk_below (g := gb214) (o := .cells #[.bool t210, .slice Ao64 t211.length co64] 93 (0, 0)) (by (with_reducible repeat (first | refine blk_drewN ?_ _ | refine blk_drew ?_ | refine blk_alloc ?_ _)); exact BK214.out) hb)
          have n4_ := Aside0.mk (below_step (by repeat (first | (with_reducible first | exact HB.out | apply below_alloc | apply pw_below_drewN | apply below_drew1 | refine below_set ?_ GE214.out) | exact HB.out)) hb)
          clear HO213
          clear HO252
          clear HO256
          clear BK214
          clear HB
          have HO213 := n0_
          have HO252 := n1_
          have HO256 := n2_
          have BK214 := n3_
          have HB := n4_
          clear n0_ n1_ n2_ n3_ n4_
          (try clear hb)
          (try clear hb2)
          (try clear hk)
          (try clear hi)
          refine hK.out _ _ ⟨(blk_cell BK214.out 0).trans rfl, (blk_cell BK214.out 1).trans rfl⟩ (fun hHeld => ?_)
          clear hK K
          refine norm_ (a' := ?_) ?_ ?_
          rotate_left
          · show Act.put _ (some 28) _ = _
            simp only [Act.put, List.setIfInBounds_toArray, List.set_cons_zero, List.set_cons_succ, i64_w, i32_w]
            rfl
          refine pure_ (i := 4) (N := some 29) (v := ?_) (a' := ?_) #[true, true, true, true, true, false] rfl rfl (by kernel_rfl) (fun _ _ _ h => h) (Or.inl ⟨by rfl, ?_⟩) ?_ ?_
          rotate_left
          · intro w'
            go_simp
            with_reducible rfl
          rotate_left
          · simp only [Act.put, List.setIfInBounds_toArray, List.set_cons_zero, List.set_cons_succ, i64_w, i32_w]
            rfl
          refine pure_ (i := 5) (N := some 2) (v := ?_) (a' := ?_) #[true, true, true, true, true, true] rfl rfl (by kernel_rfl) (fun _ _ _ h => h) (Or.inl ⟨by rfl, ?_⟩) ?_ ?_
          rotate_left
          · intro w'
            go_simp
            with_reducible rfl
          rotate_left
          · simp only [Act.put, List.setIfInBounds_toArray, List.set_cons_zero, List.set_cons_succ, i64_w, i32_w]
            rfl
          refine done_ (by kernel_rfl) ?_
          try go_wp2
          go_ret
          exact ⟨by first | rfl | (simp [errW_none, errW_some, erT_no, erV_no, erT_at, erV_at] <;> rfl) | (simp [*, errW_none, errW_some, erT_no, erV_no, erT_at, erV_at] <;> rfl), by repeat (first | (with_reducible first | exact HB.out | apply below_alloc | apply pw_below_drewN | apply below_drew1 | refine below_set ?_ GE214.out) | exact HB.out)⟩
        · rw [if_neg c60] at H
          exact absurd H (by simp)

/-! ### cavillaw33_works: function 31 -/
def cavillaw33_works.f  : Option (Bool) := (why_Text.f (⟨#[]⟩ : ByteArray) (⟨#[]⟩ : ByteArray) 0 0 2 (⟨#[120]⟩ : ByteArray) ([] : List Int) 0).bind fun t258 => (if t258.toList = ([117, 110, 100, 101, 102, 105, 110, 101, 100, 58, 32, 120] : List UInt8) then ((why_Step.f (-3)).bind fun t259 => (some (t259.toList == ([98, 111, 117, 110, 100, 32, 111, 102, 32, 116, 121, 112, 101, 32, 112, 97, 114, 97, 109, 101, 116, 101, 114, 32, 50] : List UInt8)))) else (none))
set_option maxHeartbeats 8000000 in
set_option maxRecDepth 100000 in
theorem cavillaw33_works.calls  (r : Bool) (w : World) (hG : GL_ w) (h : cavillaw33_works.f  = some r) :
    Calls Tryd.prog 31 #[] w fun e w' => e = .returned (.bool r) ∧ Below w.heap.size w w' := by
  have hu52 := Tryd.underlying52
  have HB := Aside0.mk (Below.refl w.heap.size w)
  have HG := Aside0.mk hG
  clear hG
  have H : ((why_Text.f (⟨#[]⟩ : ByteArray) (⟨#[]⟩ : ByteArray) 0 0 2 (⟨#[120]⟩ : ByteArray) ([] : List Int) 0).bind fun t258 => (if t258.toList = ([117, 110, 100, 101, 102, 105, 110, 101, 100, 58, 32, 120] : List UInt8) then ((why_Step.f (-3)).bind fun t259 => (some (t259.toList == ([98, 111, 117, 110, 100, 32, 111, 102, 32, 116, 121, 112, 101, 32, 112, 97, 114, 97, 109, 101, 116, 101, 114, 32, 50] : List UInt8)))) else (none))) = some r := h
  clear h
  replace H := Option.bind_eq_some_iff.mp H
  obtain ⟨t258, A10, H⟩ := H
  replace H : (if t258.toList = ([117, 110, 100, 101, 102, 105, 110, 101, 100, 58, 32, 120] : List UInt8) then ((why_Step.f (-3)).bind fun t259 => (some (t259.toList == ([98, 111, 117, 110, 100, 32, 111, 102, 32, 116, 121, 112, 101, 32, 112, 97, 114, 97, 109, 101, 116, 101, 114, 32, 50] : List UInt8)))) else (none)) = some r := H
  have A1 := Aside0.mk A10
  clear A10
  by_cases c2 : t258.toList = ([117, 110, 100, 101, 102, 105, 110, 101, 100, 58, 32, 120] : List UInt8)
  · rw [if_pos c2] at H
    have c2b0 : (t258.toList == ([117, 110, 100, 101, 102, 105, 110, 101, 100, 58, 32, 120] : List UInt8)) = true := beq_iff_eq.mpr c2
    have c2b1 : (t258.toList != ([117, 110, 100, 101, 102, 105, 110, 101, 100, 58, 32, 120] : List UInt8)) = false := bne_eq_false_iff_eq.mpr c2
    clear c2
    replace H := Option.bind_eq_some_iff.mp H
    obtain ⟨t259, A30, H⟩ := H
    replace H : (some (t259.toList == ([98, 111, 117, 110, 100, 32, 111, 102, 32, 116, 121, 112, 101, 32, 112, 97, 114, 97, 109, 101, 116, 101, 114, 32, 50] : List UInt8))) = some r := H
    have A3 := Aside0.mk A30
    clear A30
    obtain rfl := Option.some.inj H
    go_enter Tryd.func31, Tryd.ntmps31
    go_wp2_with (first | ((with_reducible refine gate_callee (f := 27) rfl ?_); refine goesL_ (some 2) rfl rfl Tryd.func27 (by kernel_rfl) rfl #[.agg #[.string (⟨#[]⟩ : ByteArray), .string (⟨#[]⟩ : ByteArray), .int .i64 0, .int .i64 0, .int .i64 2, .string (⟨#[120]⟩ : ByteArray), .slice none 0 0, .int .i64 0]] rfl (by (try simp only [List.map_toArray, List.map_cons, List.map_nil]); first | done | rfl | (simp only [List.length_drop, List.length_take]; rfl)) ?_; (refine (why_Text.calls (⟨#[]⟩ : ByteArray) (⟨#[]⟩ : ByteArray) 0 0 2 (⟨#[120]⟩ : ByteArray) _ _ ([] : List Int) 0 t258 _ ?side1 ?side2 A1.out).mono ?_); (case side1 => exact Kd.C_nil _ _); (case side2 => exact Nat.le_refl _); rintro e w4 ⟨rfl, hb⟩; refine ⟨_, rfl, ?_⟩; have n0_ := Aside0.mk (below_step (by repeat (first | (with_reducible first | exact HB.out | apply below_alloc | apply pw_below_drewN | apply below_drew1) | exact HB.out)) hb); clear HB; have HB := n0_; clear n0_; (try clear hb); (try clear hb2); (try clear hk); (try clear hi)) | (go_at_call 29; (with_reducible refine (why_Step.calls (-3) t259 _ ?side1 A3.out).mono ?_); (case side1 => repeat (first | exact (GL_below HG.out HB.out) | exact HG.out | (with_reducible refine GL_alloc ?_ _) | (with_reducible refine GL_drewN ?_ _) | (with_reducible refine GL_drew ?_))); rintro e w5 ⟨rfl, hb⟩; have n0_ := Aside0.mk (below_step (by repeat (first | (with_reducible first | exact HB.out | apply below_alloc | apply pw_below_drewN | apply below_drew1) | exact HB.out)) hb); clear HB; have HB := n0_; clear n0_; (try clear hb); (try clear hb2); (try clear hk); (try clear hi)))
    go_ret
    exact ⟨by first | rfl | (simp [errW_none, errW_some, erT_no, erV_no, erT_at, erV_at] <;> rfl) | (simp [*, errW_none, errW_some, erT_no, erV_no, erT_at, erV_at] <;> rfl), by repeat (first | (with_reducible first | exact HB.out | apply below_alloc | apply pw_below_drewN | apply below_drew1) | exact HB.out)⟩
  · rw [if_neg c2] at H
    exact absurd H (by simp)

end Go.Proofs.YtnpgadfoohjlnabDoor.QK
