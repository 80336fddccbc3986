/- Where a Lean function of this text answers, the Go function of its name comes to that answer: no other condition. Written by a program of this session out of the translation; Lean checks it. -/
import Derived.Test.YtnpgadfoohjlnabDoorQT0
import Derived.Test.YtnpgadfoohjlnabDoorQT2
import Derived.Test.YtnpgadfoohjlnabDoorQT3
namespace Go.Proofs.YtnpgadfoohjlnabDoor.QT
open Go.RowKit Go.Proofs.YtnpgadfoohjlnabDoorW.PrintWords Go.Proofs.YtnpgadfoohjlnabDoorW.PrintLast Go.Proofs.YtnpgadfoohjlnabDoorW.PrintMore Go.Proofs.YtnpgadfoohjlnabDoorW.PrintX
attribute [local go_sem] max2_int min2_int max_two min_two max_three min_three max_four min_four   -- for this text's walks alone
set_option linter.unusedVariables false
set_option linter.unusedSimpArgs false

/-! ### tree_Own: function 13 -/
/-- The tokens so far lie in a row of the closure's own, which the variable of block g holds. -/
def tree_Own.J (B g : Nat) (N : Nat → Prop) (s : List Int) (W : World) : Prop :=
  ∃ v : Value, W.heap[g]? = some (.cells #[v] 28 (0, 0)) ∧ (Kd.int .i64).R 3 W B (fun k => k ≠ g ∧ ¬ N k) v s
def tree_Own.tok (s : List Int) (i : Int) : Option (List Int) := if s.length < 17592186044416 then some (s ++ [i]) else none
def tree_Own.kid (s : List Int) (_ : Int) : Option (List Int) := some s
theorem tree_Own.below {B g : Nat} {N : Nat → Prop} {s : List Int} {W W' : World} (h : tree_Own.J B g N s W) (hb : Below W.heap.size W W') : tree_Own.J B g N s W' := by
  obtain ⟨v, h1, h2⟩ := h
  exact ⟨v, blk_below h1 hb, Kd.R_below h2 hb⟩
theorem tree_Own.set {B g : Nat} {N : Nat → Prop} {s : List Int} {W : World} (hg : ¬ N g) (k j : Nat) (u : Value) (hk : N k) (h : tree_Own.J B g N s W) : tree_Own.J B g N s (W.setCell ⟨k, j, none⟩ u) := by
  obtain ⟨v, h2, h3⟩ := h
  exact ⟨v, blk_far h2 (p := ⟨k, j, none⟩) (fun e => by subst e; exact hg hk) _, Kd.R_keep (g := k) h3 ((KeepBut.refl _ _ _).set_ j _) (fun q hq e => by subst e; exact hq.2 hk)⟩
set_option maxHeartbeats 4000000 in
set_option maxRecDepth 100000 in
theorem tree_Own.tok_step {B g : Nat} {N : Nat → Prop} {w0 : World} (hB : B ≤ g) (hg : ¬ N g) : tree_parts.Step (tree_Own.J B g N) tree_Own.tok B N 44 #[.pointer (some ⟨g, 0, none⟩)] w0 := by
  refine ⟨fun args w => enters_ Tryd.func44 rfl rfl args w, fun s i s' W hz hs hJ hw => ?_⟩
  obtain ⟨v, h1, h2⟩ := hJ
  unfold tree_Own.tok at hs
  split at hs
  case isFalse => cases hs
  rename_i hl
  cases hs
  have hgs := blk_lt h1
  have q1 := blk_cell h1 0
  have z1 := blk_frozen h1 0
  simp only [List.getElem?_toArray, List.getElem?_cons_zero] at q1
  have HL := Aside0.mk hl
  have H1 := Aside0.mk h1
  have H2 := Aside0.mk h2
  have HW := Aside0.mk hw
  have NN := Aside0.mk (⟨hB, hgs⟩ : B ≤ g ∧ g < W.heap.size)
  have NL := Aside0.mk (show ∀ k, N k → k < W.heap.size ∧ k ≠ g from fun k hk => by
    obtain ⟨c, t, h3, _⟩ := hz k hk
    exact ⟨blk_lt h3, fun e => by subst e; exact hg hk⟩)
  clear hl h1 h2 hz hw hB hg hgs
  show Calls Tryd.prog 44 #[.int .i64 i, .pointer (some ⟨g, 0, none⟩)] W _
  go_enter Tryd.func44, Tryd.ntmps44
  go_wp2_with (first
    | ((with_reducible refine gate_builtin (b := .append) (xs := #[.tmp 3, .tmp 5]) rfl ?_); at_builtin; refine Kd.R_append (Kd.int .i64) (w0 := w0) B rfl (.tmp 3) (.tmp 5) 28 3 (.int .i64 0) 8 rfl Tryd.underlying28 info3 rfl (by decide) (by omega) v s i [.int .i64 i] (fun k => k ≠ g ∧ ¬ N k) (fun _ => False) rfl rfl rfl (fun _ hk => hk.elim) (fun k hk => ⟨by have := NN.out; omega, fun hk' => by have := (NL.out k hk').1; omega⟩) H2.out HW.out (by have := NN.out; omega) (by have := HL.out; omega) ?_; intro v1 w1 ho hb hgr hat; have g1 := (hgr.block g (by have := NN.out; exact this.2) (fun e_ => ((H2.out).1 g e_.symm).1 rfl)).trans H1.out; have fz := blk_frozen g1 0; have qz := blk_cell g1 0; simp only [List.getElem?_toArray, List.getElem?_cons_zero] at qz; have G1 := Aside0.mk g1; have HO := Aside0.mk ho; have HB := Aside0.mk hb; have GR := Aside0.mk hgr; obtain ⟨Av, cv, ev⟩ := Kd.R_slice ho; clear g1 ho hb hgr hat; rw [List.length_append, List.length_singleton] at ev; subst ev))
  refine bodyPost_end (results_none rfl _ _ _) rfl ?_
  have hkb : ∀ k, N k → (w1.setCell ⟨g, 0, none⟩ (.slice Av (s.length + 1) cv)).heap[k]? = W.heap[k]? := fun k h0 =>
    (Below.heap_setCell w1 ⟨g, 0, none⟩ _ k (NL.out k h0).2).trans (GR.out.block k (NL.out k h0).1 (fun e_ => ((H2.out).1 k e_.symm).2 h0))
  exact ⟨rfl, ⟨_, blk_put G1.out 0 _ rfl, Kd.R_keep (g := g) HO.out ((KeepBut.refl _ _ _).set_ 0 _) (fun k_ hk_ => hk_.1)⟩, HB.out.setCell (p := ⟨g, 0, none⟩) NN.out.1 _, hkb⟩
set_option maxHeartbeats 4000000 in
theorem tree_Own.kid_step {J : List Int → World → Prop} {B : Nat} {N : Nat → Prop} {w0 : World} : tree_parts.Step J tree_Own.kid B N 43 #[] w0 := by
  refine ⟨fun args w => enters_ Tryd.func43 rfl rfl args w, fun s i s' W hz hs hJ hw => ?_⟩
  cases hs
  have HJ := Aside0.mk hJ
  have HW := Aside0.mk hw
  clear hJ hw
  show Calls Tryd.prog 43 #[.int .i64 i] W _
  go_enter Tryd.func43, Tryd.ntmps43
  go_wp2
  refine bodyPost_end (results_none rfl _ _ _) rfl ?_
  exact ⟨rfl, HJ.out, HW.out, fun _ _ => rfl⟩
def tree_Own.f (k : Nat) (l0_0 : List (S34)) (a1 : Int) : Option (List Int × Option Er) := (tree_sound.f k l0_0).bind fun t => if t.isNone = true then (if a1 < 0 then some (([] : List Int), some (Er.no 4)) else if a1 ≥ (l0_0.length : Int) then some (([] : List Int), some (Er.no 4)) else (tree_parts.run tree_Own.tok tree_Own.kid l0_0 (rd_T34 l0_0 a1).f3 (rd_T34 l0_0 a1).f1 (rd_T34 l0_0 a1).f2 []).bind fun r => some (r, none)) else some (([] : List Int), some (t.getD (Er.no 0)))
theorem tree_Own.mono : ∀ a0 a1 k, LeO (tree_Own.f k a0 a1) (tree_Own.f (k + 1) a0 a1) := by
  intro a0 a1 k
  unfold tree_Own.f
  exact LeO.bind (tree_sound.mono a0 k) (fun _ => LeO.refl _)
set_option maxHeartbeats 8000000 in
set_option maxRecDepth 100000 in
theorem tree_Own.calls (k : Nat) (A0_0 : Option Addr) (c0_0 : Nat) (l0_0 : List (S34)) (a1 : Int) (r1 : List Int) (r2 : Option Er) (w : World) (hr0_0 : Kd.C k34 w A0_0 l0_0.length l0_0) (hc0_0 : l0_0.length ≤ c0_0) (h : tree_Own.f k l0_0 a1 = some (r1, r2)) :
    Calls Tryd.prog 13 #[.agg #[.slice A0_0 l0_0.length c0_0], .int .i64 a1] w fun e w' => ∃ v0_ : Value, e = .returned (.tuple #[v0_, errW r2]) ∧ Kd.R (Kd.int .i64) 3 w' w.heap.size (fun _ => True) v0_ r1 ∧ Below w.heap.size w w' := by
  obtain ⟨t, hs, h⟩ := Option.bind_eq_some_iff.mp h
  have AS := Aside0.mk hs
  have HR := Aside0.mk hr0_0
  have HC := Aside0.mk hc0_0
  clear hs hr0_0 hc0_0
  have hue := Tryd.underlying30
  have hun := Tryd.underlying74
  rcases t with _ | q
  · rw [if_pos (show (none : Option Er).isNone = true by rfl)] at h
    by_cases c0 : a1 < 0
    · rw [if_pos c0] at h
      cases h
      have c0b : decide (a1 < 0) = true := decide_eq_true c0
      go_enter Tryd.func13, Tryd.ntmps13
      go_wp2_with (first | ((with_reducible refine gate_dst (N := 2) rfl ?_); refine box_event ?hg (N := 2) ?hd (cs := #[.slice A0_0 l0_0.length c0_0]) (t := 24) ?hr ?_; (case hd => rfl); (case hg => rfl); (case hr => first | (go_simp; done) | (go_simp; rfl)); intro gb eggb w2 hxgb hbgb; have sggb := Nat.le_of_eq eggb.symm; clear eggb; have BB := Aside0.mk hbgb; have XB := Aside0.mk hxgb; have qb := blk_cell hxgb 0; simp only [List.getElem?_toArray, List.getElem?_cons_zero, List.getElem?_cons_succ] at qb; clear hbgb hxgb) | (go_at_call 39; (refine (tree_sound.calls k _ _ l0_0 none _ (Kd.C_below HR.out BB.out) HC.out AS.out).mono ?_); rintro e w3 ⟨rfl, hb3⟩; have B3 := Aside0.mk hb3; have q3 := blk_cell (blk_below XB.out hb3) 0; simp only [List.getElem?_toArray, List.getElem?_cons_zero, List.getElem?_cons_succ] at q3; clear hb3; try simp only [errW_none]))
      go_ret2
      exact ⟨.slice none 0 0, rfl, Kd.R_nil _ _ _ _ _, BB.out.trans (B3.out.mono BB.out.size)⟩
    · rw [if_neg c0] at h
      have c0b : decide (a1 < 0) = false := decide_eq_false c0
      by_cases c1 : a1 ≥ (l0_0.length : Int)
      · rw [if_pos c1] at h
        cases h
        have c1b : decide (a1 ≥ (l0_0.length : Int)) = true := decide_eq_true c1
        go_enter Tryd.func13, Tryd.ntmps13
        go_wp2_with (first | ((with_reducible refine gate_dst (N := 2) rfl ?_); refine box_event ?hg (N := 2) ?hd (cs := #[.slice A0_0 l0_0.length c0_0]) (t := 24) ?hr ?_; (case hd => rfl); (case hg => rfl); (case hr => first | (go_simp; done) | (go_simp; rfl)); intro gb eggb w2 hxgb hbgb; have sggb := Nat.le_of_eq eggb.symm; clear eggb; have BB := Aside0.mk hbgb; have XB := Aside0.mk hxgb; have qb := blk_cell hxgb 0; simp only [List.getElem?_toArray, List.getElem?_cons_zero, List.getElem?_cons_succ] at qb; clear hbgb hxgb) | (go_at_call 39; (refine (tree_sound.calls k _ _ l0_0 none _ (Kd.C_below HR.out BB.out) HC.out AS.out).mono ?_); rintro e w3 ⟨rfl, hb3⟩; have B3 := Aside0.mk hb3; have q3 := blk_cell (blk_below XB.out hb3) 0; simp only [List.getElem?_toArray, List.getElem?_cons_zero, List.getElem?_cons_succ] at q3; clear hb3; try simp only [errW_none]))
        go_ret2
        exact ⟨.slice none 0 0, rfl, Kd.R_nil _ _ _ _ _, BB.out.trans (B3.out.mono BB.out.size)⟩
      · rw [if_neg c1] at h
        have c1b : decide (a1 ≥ (l0_0.length : Int)) = false := decide_eq_false c1
        obtain ⟨r, hr, h⟩ := Option.bind_eq_some_iff.mp h
        cases h
        have AR := Aside0.mk hr
        clear hr
        have p0 : (0 ≤ a1) = True := eq_true (by omega)
        have p1 : (a1 < (l0_0.length : Int)) = True := eq_true (by omega)
        obtain ⟨ad, A3, c3, eA, x0, x1, x2, x3, _, hk3⟩ := at_T34 HR.out a1 (by omega) (by omega)
        subst eA
        have K3 := Aside0.mk hk3
        clear hk3
        go_enter Tryd.func13, Tryd.ntmps13
        go_wp2_with (first | ((with_reducible refine gate_dst (N := 2) rfl ?_); refine box_event ?hg (N := 2) ?hd (cs := #[.slice (some ad) l0_0.length c0_0]) (t := 24) ?hr ?_; (case hd => rfl); (case hg => rfl); (case hr => first | (go_simp; done) | (go_simp; rfl)); intro gb eggb w2 hxgb hbgb; have sggb := Nat.le_of_eq eggb.symm; clear eggb; have BB := Aside0.mk hbgb; have XB := Aside0.mk hxgb; have qb := blk_cell hxgb 0; simp only [List.getElem?_toArray, List.getElem?_cons_zero, List.getElem?_cons_succ] at qb; clear hbgb hxgb) | (go_at_call 39; (refine (tree_sound.calls k _ _ l0_0 none _ (Kd.C_below HR.out BB.out) HC.out AS.out).mono ?_); rintro e w3 ⟨rfl, hb3⟩; have B3 := Aside0.mk hb3; have q3 := blk_cell (blk_below XB.out hb3) 0; simp only [List.getElem?_toArray, List.getElem?_cons_zero, List.getElem?_cons_succ] at q3; clear hb3; try simp only [errW_none]) | ((with_reducible refine gate_dst (N := 7) rfl ?_); refine box_event ?hg (N := 7) ?hd (cs := #[.slice none 0 0]) (t := 28) ?hr ?_; (case hd => rfl); (case hg => rfl); (case hr => first | (go_simp; done) | (go_simp; rfl)); intro g egg w4 hxg hbg; have sgg := Nat.le_of_eq egg.symm; clear egg; have X4 := Aside0.mk hxg; have G4 := Aside0.mk (blk_lt hxg); have b4 := (BB.out.trans (B3.out.mono BB.out.size)).trans (hbg.mono (BB.out.trans (B3.out.mono BB.out.size)).size); have B4 := Aside0.mk b4; have GB := Aside0.mk (show w.heap.size ≤ g from Nat.le_trans (BB.out.trans (B3.out.mono BB.out.size)).size sgg); have q4 := blk_cell (blk_below (blk_below XB.out B3.out) hbg) 0; simp only [List.getElem?_toArray, List.getElem?_cons_zero, List.getElem?_cons_succ] at q4; have n0' := (b4.cell (World.block_lt_of_cell? w _ x0)).trans x0; have n1' := (b4.cell (World.block_lt_of_cell? w _ x1)).trans x1; have n2' := (b4.cell (World.block_lt_of_cell? w _ x2)).trans x2; have n3' := (b4.cell (World.block_lt_of_cell? w _ x3)).trans x3; clear hxg hbg b4 sgg q3))
        refine start_ (n := 8) (S := fun w' => w'.cell? ⟨gb, 0, none⟩ = some (.slice (some ad) l0_0.length c0_0) ∧ w'.cell? (ad.add (a1.toNat * 4)) = some (.int .i64 (rd_T34 l0_0 a1).f0) ∧ w'.cell? ⟨(ad.add (a1.toNat * 4)).block, (ad.add (a1.toNat * 4)).off + 1, none⟩ = some (.int .i64 (rd_T34 l0_0 a1).f1) ∧ w'.cell? ⟨(ad.add (a1.toNat * 4)).block, (ad.add (a1.toNat * 4)).off + 2, none⟩ = some (.int .i64 (rd_T34 l0_0 a1).f2) ∧ w'.cell? ⟨(ad.add (a1.toNat * 4)).block, (ad.add (a1.toNat * 4)).off + 3, none⟩ = some (.slice A3 (rd_T34 l0_0 a1).f3.length c3) ∧ Below w4.heap.size w4 w') (ds := [7]) #[false, false, false, false, false, false, false, false] (by kernel_rfl) rfl rfl ⟨q4, n0', n1', n2', n3', (Below.refl _ _).drew⟩ (fun hHeld => ?_)
        refine pure_ (i := 1) (N := some 24) (v := ?_) (a' := ?_) #[false, true, false, false, false, false, false, false] rfl rfl (by kernel_rfl) (fun _ _ _ h => h) (Or.inl ⟨by rfl, ?_⟩) ?_ ?_
        rotate_left
        · intro w'
          go_simp
          with_reducible rfl
        rotate_left
        · simp only [Act.put, List.setIfInBounds_toArray, List.set_cons_zero, List.set_cons_succ, i64_w, i32_w]
          rfl
        refine pure_ (i := 3) (N := some 26) (v := ?_) (a' := ?_) #[false, true, false, true, false, false, false, false] rfl rfl (by kernel_rfl) (fun _ _ _ h => h) (Or.inl ⟨by rfl, ?_⟩) ?_ ?_
        rotate_left
        · intro w'
          go_simp
          with_reducible rfl
        rotate_left
        · simp only [Act.put, List.setIfInBounds_toArray, List.set_cons_zero, List.set_cons_succ, i64_w, i32_w]
          rfl
        refine pure_ (i := 6) (N := some 29) (v := ?_) (a' := ?_) #[false, true, false, true, false, false, true, false] rfl rfl (by kernel_rfl) (fun _ _ _ h => h) (Or.inl ⟨by rfl, ?_⟩) ?_ ?_
        rotate_left
        · intro w'
          go_simp
          with_reducible rfl
        rotate_left
        · simp only [Act.put, List.setIfInBounds_toArray, List.set_cons_zero, List.set_cons_succ, i64_w, i32_w]
          rfl
        refine take_ (i := 0) (N := some 23) (v := ?_) (a' := ?_) #[true, true, false, true, false, false, true, false] rfl rfl (by kernel_rfl) (fun _ _ _ h => h) (Or.inl ⟨by rfl, ?_⟩) hHeld ?_ ?_
        rotate_left
        · rintro w' ⟨s0, s1, s2, s3, s4, s5⟩
          go_simp
          with_reducible rfl
        rotate_left
        · simp only [Act.put, List.setIfInBounds_toArray, List.set_cons_zero, List.set_cons_succ, i64_w, i32_w]
          rfl
        refine take_ (i := 2) (N := some 25) (v := ?_) (a' := ?_) #[true, true, true, true, false, false, true, false] rfl rfl (by kernel_rfl) (fun _ _ _ h => h) (Or.inl ⟨by rfl, ?_⟩) hHeld ?_ ?_
        rotate_left
        · rintro w' ⟨s0, s1, s2, s3, s4, s5⟩
          go_simp
          with_reducible rfl
        rotate_left
        · simp only [Act.put, List.setIfInBounds_toArray, List.set_cons_zero, List.set_cons_succ, i64_w, i32_w]
          rfl
        refine pure_ (i := 4) (N := some 27) (v := ?_) (a' := ?_) #[true, true, true, true, true, false, true, false] rfl rfl (by kernel_rfl) (fun _ _ _ h => h) (Or.inl ⟨by rfl, ?_⟩) ?_ ?_
        rotate_left
        · intro w'
          go_simp
          with_reducible rfl
        rotate_left
        · simp only [Act.put, List.setIfInBounds_toArray, List.set_cons_zero, List.set_cons_succ, i64_w, i32_w]
          rfl
        refine take_ (i := 5) (N := some 28) (v := ?_) (a' := ?_) #[true, true, true, true, true, true, true, false] rfl rfl (by kernel_rfl) (fun _ _ _ h => h) (Or.inl ⟨by rfl, ?_⟩) hHeld ?_ ?_
        rotate_left
        · rintro w' ⟨s0, s1, s2, s3, s4, s5⟩
          go_simp
          with_reducible rfl
        rotate_left
        · simp only [Act.put, List.setIfInBounds_toArray, List.set_cons_zero, List.set_cons_succ, i64_w, i32_w]
          rfl
        refine last_ (i := 7) (N := some 30) #[true, true, true, true, true, true, true, true] rfl rfl (by kernel_rfl) (by decide) (fun K hK => ?_)
        obtain ⟨s0, s1, s2, s3, s4, s5⟩ := hHeld
        refine goes_ Tryd.func40 (by kernel_rfl) rfl #[.agg #[.slice (some ad) l0_0.length c0_0], .agg #[.int .i64 (rd_T34 l0_0 a1).f0, .int .i64 (rd_T34 l0_0 a1).f1, .int .i64 (rd_T34 l0_0 a1).f2, .slice A3 (rd_T34 l0_0 a1).f3.length c3], .func (.func 43) #[] #[], .func (.func 44) #[] #[.pointer (some ⟨g, 0, none⟩)]] (by rfl) rfl rfl (by simp only [List.map_toArray, List.map_cons, List.map_nil]; rfl) ?_
        have GZ := Nat.lt_of_lt_of_le G4.out s5.size
        refine (tree_parts.calls (J := tree_Own.J w.heap.size g) (tok := tree_Own.tok) (kid := tree_Own.kid) (w0 := w) rfl (B4.out.trans (s5.mono B4.out.size)) (fun N s W W' h hb => tree_Own.below h hb) (fun N s W k j u hN h0 h => tree_Own.set (fun hg => by have := hN g hg; omega) k j u h0 h) (fun N hN => tree_Own.tok_step GB.out (fun hg => by have := hN g hg; omega)) (fun N _ => tree_Own.kid_step) _ _ l0_0 _ _ _ _ _ _ [] _ HR.out K3.out AR.out (fun N _ => ⟨_, blk_below X4.out s5, Kd.R_nil _ _ _ _ _⟩)).mono ?_
        rintro e w6 ⟨rfl, ⟨N6, _, v6, hg6, ho6⟩, hb6⟩
        refine ⟨_, rfl, ?_⟩
        have qv6 := blk_cell hg6 0
        simp only [List.getElem?_toArray, List.getElem?_cons_zero] at qv6
        have O6 := Aside0.mk ho6
        have B6 := Aside0.mk hb6
        clear hg6 hb6 ho6
        refine hK.out _ _ ?_
        clear hK K
        refine norm_ (a' := ?_) ?_ ?_
        rotate_left
        · show Act.put _ (some 30) _ = _
          simp only [Act.put, List.setIfInBounds_toArray, List.set_cons_zero, List.set_cons_succ, i64_w, i32_w]
          rfl
        refine done_ (by kernel_rfl) ?_

        go_wp2
        go_ret2
        exact ⟨v6, rfl, Kd.R_mono O6.out (fun _ _ => trivial), B6.out⟩
  · rw [if_neg (show ¬ ((some q : Option Er).isNone = true) by simp)] at h
    cases h
    go_enter Tryd.func13, Tryd.ntmps13
    go_wp2_with (first
      | ((with_reducible refine gate_dst (N := 2) rfl ?_); refine box_event ?hg (N := 2) ?hd (cs := #[.slice A0_0 l0_0.length c0_0]) (t := 24) ?hr ?_; (case hd => rfl); (case hg => rfl); (case hr => first | (go_simp; done) | (go_simp; rfl)); intro gb eggb w2 hxgb hbgb; have sggb := Nat.le_of_eq eggb.symm; clear eggb; have BB := Aside0.mk hbgb; have qb := blk_cell hxgb 0; simp only [List.getElem?_toArray, List.getElem?_cons_zero, List.getElem?_cons_succ] at qb; clear hbgb)
      | (go_at_call 39; (refine (tree_sound.calls k _ _ l0_0 (some q) _ (Kd.C_below HR.out BB.out) HC.out AS.out).mono ?_); rintro e w3 ⟨rfl, hb3⟩; have B3 := Aside0.mk hb3; clear hb3; try simp only [errW_some]))
    go_ret2
    exact ⟨.slice none 0 0, rfl, Kd.R_nil _ _ _ _ _, BB.out.trans (B3.out.mono BB.out.size)⟩

/-! ### tree_Parents: function 14 -/
mutual
def tree_Parents.l0 : Nat → List Int → List (S34) → Int → Int → Option (List Int × Option Er)
  | 0, _, _, _, _ => none
  | k + 1, x5, x25, x26, x27 => if x27 < x26 then (if 0 ≤ x27 then (if x27 < (x25.length : Int) then (tree_Parents.l1 k x5 x27 x25 x26 x27 ((rd_T34 x25 x27).f3) (((rd_T34 x25 x27).f3).length : Int) 0) else (none)) else (none)) else (some (x5, none))
def tree_Parents.l1 : Nat → List Int → Int → List (S34) → Int → Int → List Int → Int → Int → Option (List Int × Option Er)
  | 0, _, _, _, _, _, _, _, _ => none
  | k + 1, x5, x6, x25, x26, x27, x33, x34, x35 => if x35 < x34 then (if 0 ≤ x35 then (if x35 < (x33.length : Int) then (if 0 ≤ (rd x33 x35) then (if (rd x33 x35) < (x5.length : Int) then (tree_Parents.l1 k (x5.set ((rd x33 x35) : Int).toNat x6) x6 x25 x26 x27 x33 x34 (wrap64 (x35 + 1))) else (none)) else (none)) else (none)) else (none)) else (tree_Parents.l0 k x5 x25 x26 (wrap64 (x27 + 1)))
end
def tree_Parents.f (k : Nat) (l0_0 : List (S34)) : Option (List Int × Option Er) := (tree_sound.f k l0_0).bind fun t169 => (if t169.isNone = true then (if 0 ≤ (l0_0.length : Int) then (if ((l0_0.length : Int) : Int).toNat ≤ 35184372088832 then ((some (List.replicate ((l0_0.length : Int) : Int).toNat 0 : List Int)).bind fun y171 => (if 0 ≤ (wrap64 ((y171.length : Int) - 1)) then (if (wrap64 ((y171.length : Int) - 1)) < (y171.length : Int) then (tree_Parents.l0 k (y171.set ((wrap64 ((y171.length : Int) - 1)) : Int).toNat (-1)) l0_0 (l0_0.length : Int) 0) else (none)) else (none))) else (none)) else (none)) else (some (([] : List Int), some (t169.getD (Er.no 0)))))
theorem tree_Parents.mono_l : ∀ k, (∀ y0 y1 y2 y3, LeO (tree_Parents.l0 k y0 y1 y2 y3) (tree_Parents.l0 (k + 1) y0 y1 y2 y3)) ∧ (∀ y0 y1 y2 y3 y4 y5 y6 y7, LeO (tree_Parents.l1 k y0 y1 y2 y3 y4 y5 y6 y7) (tree_Parents.l1 (k + 1) y0 y1 y2 y3 y4 y5 y6 y7))
  | 0 => ⟨fun _ _ _ _ r h => by simp [tree_Parents.l0] at h, fun _ _ _ _ _ _ _ _ r h => by simp [tree_Parents.l1] at h⟩
  | k + 1 => by
    obtain ⟨ih0, ih1⟩ := tree_Parents.mono_l k
    refine ⟨?_, ?_⟩
    · intro y0 y1 y2 y3
      unfold tree_Parents.l0
      repeat' first
      | (with_reducible exact ih0 _ _ _ _)
      | (with_reducible exact ih1 _ _ _ _ _ _ _ _)
      | (with_reducible exact tree_sound.mono _ _)
      | (with_reducible exact LeO.refl _)
      | (with_reducible exact LeO.none _)
      | (with_reducible refine LeO.ite ?_ ?_)
      | (with_reducible refine LeO.bind ?_ (fun _ => ?_))
      | exact ih0 _ _ _ _
      | exact ih1 _ _ _ _ _ _ _ _
      | exact tree_sound.mono _ _
      | exact LeO.none _
      | refine LeO.ite ?_ ?_
      | refine LeO.bind ?_ (fun _ => ?_)
    · intro y0 y1 y2 y3 y4 y5 y6 y7
      unfold tree_Parents.l1
      repeat' first
      | (with_reducible exact ih0 _ _ _ _)
      | (with_reducible exact ih1 _ _ _ _ _ _ _ _)
      | (with_reducible exact tree_sound.mono _ _)
      | (with_reducible exact LeO.refl _)
      | (with_reducible exact LeO.none _)
      | (with_reducible refine LeO.ite ?_ ?_)
      | (with_reducible refine LeO.bind ?_ (fun _ => ?_))
      | exact ih0 _ _ _ _
      | exact ih1 _ _ _ _ _ _ _ _
      | exact tree_sound.mono _ _
      | exact LeO.none _
      | refine LeO.ite ?_ ?_
      | refine LeO.bind ?_ (fun _ => ?_)
theorem tree_Parents.mono : ∀ a0 k, LeO (tree_Parents.f k a0) (tree_Parents.f (k + 1) a0) := by
  intro a0 k
  obtain ⟨ih0, ih1⟩ := tree_Parents.mono_l k
  unfold tree_Parents.f
  repeat' first
      | (with_reducible exact ih0 _ _ _ _)
      | (with_reducible exact ih1 _ _ _ _ _ _ _ _)
      | (with_reducible exact tree_sound.mono _ _)
      | (with_reducible exact LeO.refl _)
      | (with_reducible exact LeO.none _)
      | (with_reducible refine LeO.ite ?_ ?_)
      | (with_reducible refine LeO.bind ?_ (fun _ => ?_))
      | exact ih0 _ _ _ _
      | exact ih1 _ _ _ _ _ _ _ _
      | exact tree_sound.mono _ _
      | exact LeO.none _
      | refine LeO.ite ?_ ?_
      | refine LeO.bind ?_ (fun _ => ?_)
set_option maxHeartbeats 8000000 in
set_option maxRecDepth 100000 in
theorem tree_Parents.calls (k : Nat) (A0_0 : Option Addr) (c0_0 : Nat) (l0_0 : List (S34)) (r1 : List Int) (r2 : Option Er) (w : World) (hr0_0 : Kd.C k34 w A0_0 l0_0.length l0_0) (hc0_0 : l0_0.length ≤ c0_0) (h : tree_Parents.f k l0_0 = some (r1, r2)) :
    Calls Tryd.prog 14 #[.agg #[.slice A0_0 l0_0.length c0_0]] w fun e w' => ∃ v0_ : Value, e = .returned (.tuple #[v0_, errW r2]) ∧ Kd.R (Kd.int .i64) 3 w' w.heap.size (fun _ => True) v0_ r1 ∧ Below w.heap.size w w' := by
  have hu24 := Tryd.underlying24
  have hu34 := Tryd.underlying34
  have hu30 := Tryd.underlying30
  have hu74 := Tryd.underlying74
  have HR0_0 := Aside0.mk hr0_0
  have HC0_0 := Aside0.mk hc0_0
  clear hr0_0 hc0_0
  have HB := Aside0.mk (Below.refl w.heap.size w)
  have H : ((tree_sound.f k l0_0).bind fun t169 => (if t169.isNone = true then (if 0 ≤ (l0_0.length : Int) then (if ((l0_0.length : Int) : Int).toNat ≤ 35184372088832 then ((some (List.replicate ((l0_0.length : Int) : Int).toNat 0 : List Int)).bind fun y171 => (if 0 ≤ (wrap64 ((y171.length : Int) - 1)) then (if (wrap64 ((y171.length : Int) - 1)) < (y171.length : Int) then (tree_Parents.l0 k (y171.set ((wrap64 ((y171.length : Int) - 1)) : Int).toNat (-1)) l0_0 (l0_0.length : Int) 0) else (none)) else (none))) else (none)) else (none)) else (some (([] : List Int), some (t169.getD (Er.no 0)))))) = some (r1, r2) := h
  clear h
  replace H := Option.bind_eq_some_iff.mp H
  obtain ⟨t169, A20, H⟩ := H
  replace H : (if t169.isNone = true then (if 0 ≤ (l0_0.length : Int) then (if ((l0_0.length : Int) : Int).toNat ≤ 35184372088832 then ((some (List.replicate ((l0_0.length : Int) : Int).toNat 0 : List Int)).bind fun y171 => (if 0 ≤ (wrap64 ((y171.length : Int) - 1)) then (if (wrap64 ((y171.length : Int) - 1)) < (y171.length : Int) then (tree_Parents.l0 k (y171.set ((wrap64 ((y171.length : Int) - 1)) : Int).toNat (-1)) l0_0 (l0_0.length : Int) 0) else (none)) else (none))) else (none)) else (none)) else (some (([] : List Int), some (t169.getD (Er.no 0))))) = some (r1, r2) := H
  have A2 := Aside0.mk A20
  clear A20
  rcases t169 with _ | q170
  · have H1 : (if 0 ≤ (l0_0.length : Int) then (if ((l0_0.length : Int) : Int).toNat ≤ 35184372088832 then ((some (List.replicate ((l0_0.length : Int) : Int).toNat 0 : List Int)).bind fun y171 => (if 0 ≤ (wrap64 ((y171.length : Int) - 1)) then (if (wrap64 ((y171.length : Int) - 1)) < (y171.length : Int) then (tree_Parents.l0 k (y171.set ((wrap64 ((y171.length : Int) - 1)) : Int).toNat (-1)) l0_0 (l0_0.length : Int) 0) else (none)) else (none))) else (none)) else (none)) = some (r1, r2) := by rw [if_pos (show (none : Option Er).isNone = true by rfl)] at H; exact H
    clear H
    have H := H1
    clear H1
    try simp only [errW_none, errW_some, erT_no, erV_no, erT_at, erV_at]
    by_cases c3 : 0 ≤ (l0_0.length : Int)
    · rw [if_pos c3] at H
      have c3b0 := eq_true c3
      have c3b1 : decide (0 ≤ (l0_0.length : Int)) = true := decide_eq_true c3
      clear c3
      by_cases c4 : ((l0_0.length : Int) : Int).toNat ≤ 35184372088832
      · rw [if_pos c4] at H
        have c4b0 := eq_true c4
        have c4b1 : decide (((l0_0.length : Int) : Int).toNat ≤ 35184372088832) = true := decide_eq_true c4
        clear c4
        obtain ⟨y171, hy171⟩ : ∃ y_ : List Int, y_ = (List.replicate ((l0_0.length : Int) : Int).toNat 0) := ⟨_, rfl⟩
        replace H : (if 0 ≤ (wrap64 ((y171.length : Int) - 1)) then (if (wrap64 ((y171.length : Int) - 1)) < (y171.length : Int) then (tree_Parents.l0 k (y171.set ((wrap64 ((y171.length : Int) - 1)) : Int).toNat (-1)) l0_0 (l0_0.length : Int) 0) else (none)) else (none)) = some (r1, r2) := by first | (rw [hy171]; with_reducible exact H) | (have H2_ := (Option.bind_some _ _).symm.trans H; rw [hy171]; with_reducible exact H2_) | (have H2_ := (Option.bind_some _ _).symm.trans H; with_reducible exact H2_) | with_reducible exact H | (rw [hy171]; exact H) | exact H
        have Ny171 := Aside0.mk hy171
        clear hy171
        obtain ⟨ji5, hji5⟩ : ∃ j_ : Int, (wrap64 ((y171.length : Int) - 1)) = j_ := ⟨_, rfl⟩
        replace H : (if 0 ≤ (ji5) then (if (ji5) < (y171.length : Int) then (tree_Parents.l0 k (y171.set ((ji5) : Int).toNat (-1)) l0_0 (l0_0.length : Int) 0) else (none)) else (none)) = some (r1, r2) := by first | (rw [hji5] at H; exact H) | (simp only [hji5] at H ⊢; exact H)
        (try rw [hji5] at A2)
        have hji5w : (IntKind.i64.wrap ((y171.length : Int) - 1)) = ji5 := (i64_w _).trans hji5
        by_cases c6 : 0 ≤ (ji5)
        · rw [if_pos c6] at H
          have c6b0 : decide (0 ≤ (ji5)) = true := decide_eq_true c6
          clear c6
          by_cases c7 : (ji5) < (y171.length : Int)
          · rw [if_pos c7] at H
            have c7b0 : decide ((ji5) < (y171.length : Int)) = true := decide_eq_true c7
            clear c7
            obtain ⟨y174, hy174⟩ : ∃ y_ : List Int, y_ = (y171.set ((ji5) : Int).toNat (-1)) := ⟨_, rfl⟩
            replace H : (tree_Parents.l0 k y174 l0_0 (l0_0.length : Int) 0) = some (r1, r2) := by first | (rw [hy174]; with_reducible exact H) | (have H2_ := (Option.bind_some _ _).symm.trans H; rw [hy174]; with_reducible exact H2_) | (have H2_ := (Option.bind_some _ _).symm.trans H; with_reducible exact H2_) | with_reducible exact H | (rw [hy174]; exact H) | exact H
            have Ny174 := Aside0.mk hy174
            clear hy174
            have H' := Aside0.mk H
            clear H
            go_enter Tryd.func14, Tryd.ntmps14
            go_wp2_with (first | ((with_reducible refine gate_dst (N := 1) rfl ?_); refine box_event ?hg (N := 1) ?hd (cs := #[.slice A0_0 l0_0.length c0_0]) (t := 24) ?hr ?_; (case hd => rfl); (case hg => rfl); (case hr => first | (go_simp; done) | (go_simp; rfl)); intro gb168 hg w9 hbox hb; have n0_ := Aside0.mk (below_step (by repeat (first | (with_reducible first | exact HB.out | apply below_alloc | apply pw_below_drewN | apply below_drew1) | exact HB.out)) hb); have n1_ := Aside0.mk (hbox); have n2_ := Aside0.mk ((by rw [hg]; exact (below_size (by repeat (first | (with_reducible first | exact HB.out | apply below_alloc | apply pw_below_drewN | apply below_drew1) | exact HB.out))) : w.heap.size ≤ gb168)); have n3_ := Aside0.mk ((by rw [hg]; exact (below_size (by repeat (first | (with_reducible first | exact HB.out | apply below_alloc | apply pw_below_drewN | apply below_drew1) | exact HB.out))) : w.heap.size ≤ gb168)); clear HB; have HB := n0_; have BK168 := n1_; have GW168 := n2_; have GE168 := n3_; clear n0_ n1_ n2_ n3_; clear hb hbox hg; have hcz10_0 : w9.cell? ⟨gb168, 0, none⟩ = some (.slice A0_0 l0_0.length c0_0) := (blk_cell BK168.out 0).trans rfl; have hfz10_0 := blk_frozen BK168.out 0) | ((with_reducible refine gate_callee (f := 39) rfl ?_); refine goesL_ (some 11) rfl rfl Tryd.func39 (by kernel_rfl) rfl #[.agg #[.slice A0_0 l0_0.length c0_0]] rfl (by (try simp only [List.map_toArray, List.map_cons, List.map_nil]); first | done | rfl | (simp only [List.length_drop, List.length_take]; rfl)) ?_; (with_reducible refine (tree_sound.calls k _ _ l0_0 none _ ?side1 ?side2 A2.out).mono ?_); (case side1 => repeat (first | exact (Kd.C_below HR0_0.out HB.out) | (with_reducible refine Kd.C_alloc ?_ _) | (with_reducible refine Kd.C_drewN ?_ _) | (with_reducible refine Kd.C_drew ?_))); (case side2 => exact HC0_0.out); rintro e w11 ⟨rfl, hb⟩; refine ⟨_, rfl, ?_⟩; have n0_ := Aside0.mk (blk_below (g := gb168) (o := .cells #[.slice A0_0 l0_0.length c0_0] 24 (0, 0)) (by (with_reducible repeat (first | refine blk_drewN ?_ _ | refine blk_drew ?_ | refine blk_alloc ?_ _)); exact BK168.out) hb); have n1_ := Aside0.mk (below_step (by repeat (first | (with_reducible first | exact HB.out | apply below_alloc | apply pw_below_drewN | apply below_drew1 | refine below_set ?_ GE168.out) | exact HB.out)) hb); clear BK168; clear HB; have BK168 := n0_; have HB := n1_; clear n0_ n1_; (try clear hb); (try clear hb2); (try clear hk); (try clear hi); (try simp only [errW_none, errW_some, erT_no, erV_no, erT_at, erV_at]); have hcz12_0 : w11.cell? ⟨gb168, 0, none⟩ = some (.slice A0_0 l0_0.length c0_0) := (blk_cell BK168.out 0).trans rfl; have hfz12_0 := blk_frozen BK168.out 0) | ((with_reducible refine gate_dst (N := 18) rfl ?_); refine Kd.R_make (Kd.int .i64) _ 3 rfl (N := 18) rfl 28 _ _ rfl (l0_0.length : Int) rfl rfl Tryd.underlying28 (.int .i64 0) 8 info3 rfl (by decide) (by omega) 0 (ok := fun _ => True) (okp := fun _ => True) rfl (fun _ hk => hk) trivial (of_decide_eq_true (by first | (with_reducible assumption) | assumption)) (Nat.le_trans (Nat.mul_le_mul_right _ (of_decide_eq_true (by first | (with_reducible assumption) | assumption) : (l0_0.length : Int).toNat ≤ 35184372088832)) (by omega)) (Below.refl _ _) (Nat.le_refl _) ?_; intro v172 w13 ho14 hb hg_ hnew_; clear hg_ hnew_; (first | rw [← Ny171.out] at ho14 | (simp only [Int.reduceToNat] at ho14; rw [← Ny171.out] at ho14)); have n0_ := Aside0.mk (Kd.R_lower ho14 (below_size (by repeat (first | (with_reducible first | exact HB.out | apply below_alloc | apply pw_below_drewN | apply below_drew1 | refine below_set ?_ GE168.out) | exact HB.out)))); have n1_ := Aside0.mk (blk_below (g := gb168) (o := .cells #[.slice A0_0 l0_0.length c0_0] 24 (0, 0)) (by (with_reducible repeat (first | refine blk_drewN ?_ _ | refine blk_drew ?_ | refine blk_alloc ?_ _)); exact BK168.out) hb); have n2_ := Aside0.mk (below_step (by repeat (first | (with_reducible first | exact HB.out | apply below_alloc | apply pw_below_drewN | apply below_drew1 | refine below_set ?_ GE168.out) | exact HB.out)) hb); clear BK168; clear HB; have HO173 := n0_; have BK168 := n1_; have HB := n2_; clear n0_ n1_ n2_; clear hb ho14; obtain ⟨Ao15, co15, eo15⟩ := Kd.R_slice HO173.out; subst eo15; have p8 : 0 ≤ ((ji5) : Int) := of_decide_eq_true (by first | (with_reducible assumption) | assumption); have q8 : ((ji5) : Int) < ((y171.length : Int) : Int) := of_decide_eq_true (by first | (with_reducible assumption) | assumption); obtain ⟨go8, co8, eo8, gb8, gl8, cl8, HG8⟩ := Kd.R_form HO173.out (by omega); (first | cases eo8 | (injection eo8 with ea_ en_ ec_; (first | subst ea_ | (injection ea_ with ea_; subst ea_)); subst ec_; clear en_)); have GB8 := Aside0.mk gb8; have GG8 := Aside0.mk HG8; clear gb8 gl8 HG8; obtain ⟨hx8_0, hf8_0⟩ := Kd.R_celln 0 HO173.out ((ji5) : Int) p8 q8; replace p8 := eq_true p8; replace q8 := eq_true q8; obtain ⟨hy16_, hz16_⟩ := Kd.R_celln 0 HO173.out ((ji5) : Int) (of_decide_eq_true (by first | (with_reducible assumption) | assumption)) (of_decide_eq_true (by first | (with_reducible assumption) | assumption)); have HP16 := Kd.R_putg HO173.out ((ji5) : Int) (-1)) | ((with_reducible refine gate_store (t := 3) (p := 23) rfl ?_); refine store_event (t := 3) (p := 23) (v := ?vo_w17) (w1 := (w13.setCell ⟨go8, ((ji5) : Int).toNat, none⟩ (.int .i64 (-1)))) ?hg ?ho ?hn ?hr ?_; (case ho => rfl); (case hg => rfl); (case hn => rfl); (case hr => first | (go_simp; done) | (go_simp; rfl)); intro w17 hw; have hg : w13.grownBy w17 (some go8) := (by rw [hw]; exact HP16.2); have hp_ : Kd.R (Kd.int .i64) 3 w17 w.heap.size (fun _ => True) (.slice (some ⟨go8, 0, none⟩) y171.length co15) y174 := (by rw [hw, Ny174.out]; exact HP16.1); clear HP16; have n0_ := Aside0.mk (blk_grown (g := gb168) (o := .cells #[.slice A0_0 l0_0.length c0_0] 24 (0, 0)) (by (with_reducible repeat (first | refine blk_drewN ?_ _ | refine blk_drew ?_ | refine blk_alloc ?_ _)); exact BK168.out) hg (Kd.R_ne HO173.out BK168.out (by decide))); have n1_ := Aside0.mk (hp_); have n2_ := Aside0.mk ((by rw [hw]; exact below_set (HB.out) GB8.out : Below w.heap.size w w17)); clear BK168; clear HO173; clear HB; have BK168 := n0_; have HO173 := n1_; have HB := n2_; clear n0_ n1_ n2_; clear hg hw hp_; have hcz18_0 : w17.cell? ⟨gb168, 0, none⟩ = some (.slice A0_0 l0_0.length c0_0) := (blk_cell BK168.out 0).trans rfl; have hfz18_0 := blk_frozen BK168.out 0))
            go_loopg [27] k (fun kq v27 w' => ∃ (x5_1 : List Int) (x27_1 : Int), v27 = .int .i64 x27_1 ∧ Aside0 (tree_Parents.l0 kq x5_1 l0_0 (l0_0.length : Int) x27_1 = some (r1, r2)) ∧ Aside0 (kq ≤ k) ∧ Aside0 (Kd.R (Kd.int .i64) 3 w' w.heap.size (fun _ => True) (.slice (some ⟨go8, 0, none⟩) y171.length co15) x5_1) ∧ Aside0 (w'.heap[gb168]? = some (.cells #[(.slice A0_0 l0_0.length c0_0)] 24 (0, 0))) ∧ Aside0 (Below w.heap.size w w'))
            case atStart => exact ⟨(y174), (0), (by first | rfl | (simp; done) | (simp [*]; done)), H', ⟨Nat.le_refl _⟩, ⟨by (with_reducible repeat (first | apply Kd.R_alloc | apply Kd.R_drewN | apply Kd.R_drew)); exact HO173.out⟩, ⟨by (with_reducible repeat (first | refine blk_drewN ?_ _ | refine blk_drew ?_ | refine blk_alloc ?_ _)); exact BK168.out⟩, ⟨by repeat (first | (with_reducible first | exact HB.out | apply below_alloc | apply pw_below_drewN | apply below_drew1 | refine below_set ?_ GE168.out) | exact HB.out)⟩⟩
            case round =>
              clear H'
              try clear c1
              try clear q1
              try clear p2
              try clear c3
              try clear c3b0
              try clear c3b1
              try clear c4
              try clear c4b0
              try clear c4b1
              try clear c6
              try clear c6b0
              try clear p6
              try clear c7
              try clear c7b0
              try clear p8
              try clear q8
              try clear hx8
              try clear hf8
              try clear c14
              try clear q17
              try clear hcz10_0
              try clear hcz12_0
              try clear hcz18_0
              try clear hfz10_0
              try clear hfz12_0
              try clear hfz18_0
              try clear hx8_0
              try clear p8
              try clear q170
              try clear q8
              obtain ⟨x5_1, x27_1, rfl, HA, HK1, HO_5, BK168, HB⟩ := hrel
              have hl5_1 := (Kd.R_reads' HO_5.out).1
              rw [hl5_1] at HO_5
              (try simp only [hl5_1])
              (try simp only [hl5_1] at BK168)
              cases gk with
              | zero => exact absurd HA.out (by simp [tree_Parents.l0])
              | succ k1 =>
                have H := HA.out
                clear HA
                simp only [tree_Parents.l0] at H
                by_cases c19 : x27_1 < (l0_0.length : Int)
                · rw [if_pos c19] at H
                  have c19b0 : decide (x27_1 < (l0_0.length : Int)) = true := decide_eq_true c19
                  clear c19
                  by_cases c20 : 0 ≤ x27_1
                  · rw [if_pos c20] at H
                    have c20b0 : decide (0 ≤ x27_1) = true := decide_eq_true c20
                    clear c20
                    by_cases c21 : x27_1 < (l0_0.length : Int)
                    · rw [if_pos c21] at H
                      have c21b0 : decide (x27_1 < (l0_0.length : Int)) = true := decide_eq_true c21
                      clear c21
                      have H' := Aside0.mk H
                      clear H
                      have p175 : 0 ≤ (x27_1 : Int) := of_decide_eq_true (by first | (with_reducible assumption) | assumption)
                      have q175 : x27_1 < (l0_0.length : Int) := of_decide_eq_true (by first | (with_reducible assumption) | assumption)
                      obtain ⟨ad175, A175_3, c175_3, e175, hx175_0, hx175_1, hx175_2, hx175_3, hl175_3, hi175_3⟩ := at_T34 HR0_0.out x27_1 p175 q175
                      cases e175
                      replace hx175_0 := (HB.out.cell (World.block_lt_of_cell? w _ hx175_0)).trans hx175_0
                      replace hx175_1 := (HB.out.cell (World.block_lt_of_cell? w _ hx175_1)).trans hx175_1
                      replace hx175_2 := (HB.out.cell (World.block_lt_of_cell? w _ hx175_2)).trans hx175_2
                      replace hx175_3 := (HB.out.cell (World.block_lt_of_cell? w _ hx175_3)).trans hx175_3
                      have HR175_3 := Aside0.mk hi175_3
                      have HC175_3 := Aside0.mk hl175_3
                      clear hi175_3 hl175_3
                      replace p175 := eq_true p175
                      replace q175 := eq_true q175
                      go_wp2_with (first | ((with_reducible refine gate_dst (N := 7) rfl ?_); refine box_event ?hg (N := 7) ?hd (cs := #[.int .i64 0, .int .i64 0, .int .i64 0, .slice none 0 0]) (t := 34) ?hr ?_; (case hd => rfl); (case hg => rfl); (case hr => first | (go_simp; done) | (go_simp; rfl)); intro gb176 hg w22 hbox hb; have n0_ := Aside0.mk (Kd.R_below (by (with_reducible repeat (first | apply Kd.R_alloc | apply Kd.R_drewN | apply Kd.R_drew)); exact HO_5.out) hb); have n1_ := Aside0.mk (blk_below (g := gb168) (o := .cells #[.slice (some ad175) l0_0.length c0_0] 24 (0, 0)) (by (with_reducible repeat (first | refine blk_drewN ?_ _ | refine blk_drew ?_ | refine blk_alloc ?_ _)); exact BK168.out) hb); have n2_ := Aside0.mk (below_step (by repeat (first | (with_reducible first | exact HB.out | apply below_alloc | apply pw_below_drewN | apply below_drew1 | refine below_set ?_ GE168.out) | exact HB.out)) hb); have n3_ := Aside0.mk (hbox); have n4_ := Aside0.mk ((by rw [hg]; exact (below_size (by repeat (first | (with_reducible first | exact HB.out | apply below_alloc | apply pw_below_drewN | apply below_drew1 | refine below_set ?_ GE168.out) | exact HB.out))) : w.heap.size ≤ gb176)); have n5_ := Aside0.mk ((by rw [hg]; exact (below_size (by repeat (first | (with_reducible first | exact HB.out | apply below_alloc | apply pw_below_drewN | apply below_drew1 | refine below_set ?_ GE168.out) | exact HB.out))) : w.heap.size ≤ gb176)); have n6_ := Aside0.mk ((by rw [hg]; exact Nat.ne_of_lt (blk_lt (g := gb168) (o := .cells #[.slice (some ad175) l0_0.length c0_0] 24 (0, 0)) (by (with_reducible repeat (first | refine blk_drewN ?_ _ | refine blk_drew ?_ | refine blk_alloc ?_ _)); exact BK168.out)) : gb168 ≠ gb176)); have n7_ := Aside0.mk ((by rw [hg]; exact Nat.ne_of_gt (blk_lt (g := gb168) (o := .cells #[.slice (some ad175) l0_0.length c0_0] 24 (0, 0)) (by (with_reducible repeat (first | refine blk_drewN ?_ _ | refine blk_drew ?_ | refine blk_alloc ?_ _)); exact BK168.out)) : gb176 ≠ gb168)); clear HO_5; clear BK168; clear HB; have HO_5 := n0_; have BK168 := n1_; have HB := n2_; have BK176 := n3_; have GW176 := n4_; have GE176 := n5_; have NB168_176 := n6_; have NB176_168 := n7_; clear n0_ n1_ n2_ n3_ n4_ n5_ n6_ n7_; clear hb hbox hg; have hnb23 := NB176_168.out; have hnc23 := NB168_176.out; have hcz24_0 : w22.cell? ⟨gb176, 0, none⟩ = some (.int .i64 0) := (blk_cell BK176.out 0).trans rfl; have hcz24_1 : w22.cell? ⟨gb176, 1, none⟩ = some (.int .i64 0) := (blk_cell BK176.out 1).trans rfl; have hcz24_2 : w22.cell? ⟨gb176, 2, none⟩ = some (.int .i64 0) := (blk_cell BK176.out 2).trans rfl; have hcz24_3 : w22.cell? ⟨gb176, 3, none⟩ = some (.slice none 0 0) := (blk_cell BK176.out 3).trans rfl; have hfz24_0 := blk_frozen BK176.out 0; have hfz24_1 := blk_frozen BK176.out 1; have hfz24_2 := blk_frozen BK176.out 2; have hfz24_3 := blk_frozen BK176.out 3))
                      go_loopg [35] k1 (fun kq v35 w' => ∃ (x5_2 : List Int) (x35_2 : Int), v35 = .int .i64 x35_2 ∧ Aside0 (tree_Parents.l1 kq x5_2 x27_1 l0_0 (l0_0.length : Int) x27_1 ((rd_T34 l0_0 x27_1).f3) (((rd_T34 l0_0 x27_1).f3).length : Int) x35_2 = some (r1, r2)) ∧ Aside0 (kq ≤ k1) ∧ Aside0 (Kd.R (Kd.int .i64) 3 w' w.heap.size (fun _ => True) (.slice (some ⟨go8, 0, none⟩) x5_1.length co15) x5_2) ∧ Aside0 (w'.heap[gb168]? = some (.cells #[(.slice (some ad175) l0_0.length c0_0)] 24 (0, 0))) ∧ Aside0 (w'.heap[gb176]? = some (.cells #[.int .i64 ((rd_T34 l0_0 x27_1).f0), .int .i64 ((rd_T34 l0_0 x27_1).f1), .int .i64 ((rd_T34 l0_0 x27_1).f2), (.slice A175_3 ((rd_T34 l0_0 x27_1).f3).length c175_3)] 34 (0, 0))) ∧ Aside0 (Below w.heap.size w w'))
                      case atStart => exact ⟨(x5_1), (0), (by first | rfl | (simp; done) | (simp [*]; done)), H', ⟨Nat.le_refl _⟩, ⟨by (try simp only [hl5_1]); (with_reducible repeat (first | apply Kd.R_alloc | apply Kd.R_drewN | apply Kd.R_drew)); exact Kd.R_mono (Kd.R_far (p := ⟨gb176, 3, none⟩) (Kd.R_far (p := ⟨gb176, 2, none⟩) (Kd.R_far (p := ⟨gb176, 1, none⟩) (Kd.R_far (p := ⟨gb176, 0, none⟩) (Kd.R_types HO_5.out BK176.out (by decide)) (fun _ hk => hk.2) (.int .i64 ((rd_T34 l0_0 x27_1).f0))) (fun _ hk => hk.2) (.int .i64 ((rd_T34 l0_0 x27_1).f1))) (fun _ hk => hk.2) (.int .i64 ((rd_T34 l0_0 x27_1).f2))) (fun _ hk => hk.2) (.slice A175_3 ((rd_T34 l0_0 x27_1).f3).length c175_3)) (fun _ hk => trivial)⟩, ⟨by (try simp only [hl5_1]); (with_reducible repeat (first | refine blk_drewN ?_ _ | refine blk_drew ?_ | refine blk_alloc ?_ _)); refine blk_far ?_ NB168_176.out _; (with_reducible repeat (first | refine blk_drewN ?_ _ | refine blk_drew ?_ | refine blk_alloc ?_ _)); refine blk_far ?_ NB168_176.out _; (with_reducible repeat (first | refine blk_drewN ?_ _ | refine blk_drew ?_ | refine blk_alloc ?_ _)); refine blk_far ?_ NB168_176.out _; (with_reducible repeat (first | refine blk_drewN ?_ _ | refine blk_drew ?_ | refine blk_alloc ?_ _)); refine blk_far ?_ NB168_176.out _; (with_reducible repeat (first | refine blk_drewN ?_ _ | refine blk_drew ?_ | refine blk_alloc ?_ _)); exact BK168.out⟩, ⟨by (try simp only [hl5_1]); (with_reducible repeat (first | refine blk_drewN ?_ _ | refine blk_drew ?_ | refine blk_alloc ?_ _)); refine blk_put (cs := #[.int .i64 ((rd_T34 l0_0 x27_1).f0), .int .i64 ((rd_T34 l0_0 x27_1).f1), .int .i64 ((rd_T34 l0_0 x27_1).f2), .slice none 0 0]) ?_ 3 _ rfl; (with_reducible repeat (first | refine blk_drewN ?_ _ | refine blk_drew ?_ | refine blk_alloc ?_ _)); refine blk_put (cs := #[.int .i64 ((rd_T34 l0_0 x27_1).f0), .int .i64 ((rd_T34 l0_0 x27_1).f1), .int .i64 0, .slice none 0 0]) ?_ 2 _ rfl; (with_reducible repeat (first | refine blk_drewN ?_ _ | refine blk_drew ?_ | refine blk_alloc ?_ _)); refine blk_put (cs := #[.int .i64 ((rd_T34 l0_0 x27_1).f0), .int .i64 0, .int .i64 0, .slice none 0 0]) ?_ 1 _ rfl; (with_reducible repeat (first | refine blk_drewN ?_ _ | refine blk_drew ?_ | refine blk_alloc ?_ _)); refine blk_put (cs := #[.int .i64 0, .int .i64 0, .int .i64 0, .slice none 0 0]) ?_ 0 _ rfl; (with_reducible repeat (first | refine blk_drewN ?_ _ | refine blk_drew ?_ | refine blk_alloc ?_ _)); exact BK176.out⟩, ⟨by repeat (first | (with_reducible first | exact HB.out | apply below_alloc | apply pw_below_drewN | apply below_drew1 | refine below_set ?_ GE168.out | refine below_set ?_ GE176.out) | exact HB.out)⟩⟩
                      case round =>
                        clear H'
                        try clear c1
                        try clear p1
                        try clear q1
                        try clear hx1
                        try clear c2
                        try clear p2
                        try clear c3
                        try clear c3b0
                        try clear c3b1
                        try clear c4
                        try clear c4b0
                        try clear c4b1
                        try clear c6
                        try clear c6b0
                        try clear p6
                        try clear c7
                        try clear c7b0
                        try clear p8
                        try clear q8
                        try clear hx8
                        try clear hf8
                        try clear c14
                        try clear c17
                        try clear p17
                        try clear q17
                        try clear hx17
                        try clear c19
                        try clear c19b0
                        try clear c20
                        try clear c20b0
                        try clear c21
                        try clear c21b0
                        try clear c23
                        try clear hcz10_0
                        try clear hcz12_0
                        try clear hcz18_0
                        try clear hcz24_0
                        try clear hcz24_1
                        try clear hcz24_2
                        try clear hcz24_3
                        try clear hfz10_0
                        try clear hfz12_0
                        try clear hfz18_0
                        try clear hfz24_0
                        try clear hfz24_1
                        try clear hfz24_2
                        try clear hfz24_3
                        try clear hx175_0
                        try clear hx175_1
                        try clear hx175_2
                        try clear hx175_3
                        try clear hx8_0
                        try clear p175
                        try clear p2
                        try clear p6
                        try clear p8
                        try clear q1
                        try clear q17
                        try clear q170
                        try clear q175
                        try clear q8
                        obtain ⟨x5_2, x35_2, rfl, HA, HK2, HO_5, BK168, BK176, HB⟩ := hrel
                        have hl5_2 := (Kd.R_reads' HO_5.out).1
                        rw [hl5_2] at HO_5
                        (try simp only [hl5_2])
                        (try simp only [hl5_2] at BK168)
                        (try simp only [hl5_2] at BK176)
                        cases gk with
                        | zero => exact absurd HA.out (by simp [tree_Parents.l1])
                        | succ k2 =>
                          have H := HA.out
                          clear HA
                          simp only [tree_Parents.l1] at H
                          by_cases c25 : x35_2 < (((rd_T34 l0_0 x27_1).f3).length : Int)
                          · rw [if_pos c25] at H
                            have c25b0 : decide (x35_2 < (((rd_T34 l0_0 x27_1).f3).length : Int)) = true := decide_eq_true c25
                            clear c25
                            by_cases c26 : 0 ≤ x35_2
                            · rw [if_pos c26] at H
                              have c26b0 : decide (0 ≤ x35_2) = true := decide_eq_true c26
                              clear c26
                              by_cases c27 : x35_2 < (((rd_T34 l0_0 x27_1).f3).length : Int)
                              · rw [if_pos c27] at H
                                have c27b0 : decide (x35_2 < (((rd_T34 l0_0 x27_1).f3).length : Int)) = true := decide_eq_true c27
                                clear c27
                                by_cases c28 : 0 ≤ (rd ((rd_T34 l0_0 x27_1).f3) x35_2)
                                · rw [if_pos c28] at H
                                  have c28b0 : decide (0 ≤ (rd ((rd_T34 l0_0 x27_1).f3) x35_2)) = true := decide_eq_true c28
                                  clear c28
                                  by_cases c29 : (rd ((rd_T34 l0_0 x27_1).f3) x35_2) < (x5_2.length : Int)
                                  · rw [if_pos c29] at H
                                    have c29b0 : decide ((rd ((rd_T34 l0_0 x27_1).f3) x35_2) < (x5_2.length : Int)) = true := decide_eq_true c29
                                    clear c29
                                    obtain ⟨y178, hy178⟩ : ∃ y_ : List Int, y_ = (x5_2.set ((rd ((rd_T34 l0_0 x27_1).f3) x35_2) : Int).toNat x27_1) := ⟨_, rfl⟩
                                    replace H : (tree_Parents.l1 k2 y178 x27_1 l0_0 (l0_0.length : Int) x27_1 ((rd_T34 l0_0 x27_1).f3) (((rd_T34 l0_0 x27_1).f3).length : Int) (wrap64 (x35_2 + 1))) = some (r1, r2) := by first | (rw [hy178]; with_reducible exact H) | (have H2_ := (Option.bind_some _ _).symm.trans H; rw [hy178]; with_reducible exact H2_) | (have H2_ := (Option.bind_some _ _).symm.trans H; with_reducible exact H2_) | with_reducible exact H | (rw [hy178]; exact H) | exact H
                                    have Ny178 := Aside0.mk hy178
                                    clear hy178
                                    have H' := Aside0.mk H
                                    clear H
                                    have p177 : 0 ≤ (x35_2 : Int) := of_decide_eq_true (by first | (with_reducible assumption) | assumption)
                                    have q177 : x35_2 < (((rd_T34 l0_0 x27_1).f3).length : Int) := of_decide_eq_true (by first | (with_reducible assumption) | assumption)
                                    obtain ⟨ad177, e177, hx177_0⟩ := Kd.at_int HR175_3.out x35_2 p177 q177
                                    cases e177
                                    replace hx177_0 := (HB.out.cell (World.block_lt_of_cell? w _ hx177_0)).trans hx177_0
                                    replace p177 := eq_true p177
                                    replace q177 := eq_true q177
                                    have p30 : 0 ≤ ((rd ((rd_T34 l0_0 x27_1).f3) x35_2) : Int) := of_decide_eq_true (by first | (with_reducible assumption) | assumption)
                                    have q30 : ((rd ((rd_T34 l0_0 x27_1).f3) x35_2) : Int) < ((x5_2.length : Int) : Int) := of_decide_eq_true (by first | (with_reducible assumption) | assumption)
                                    obtain ⟨hx30_0, hf30_0⟩ := Kd.R_celln 0 HO_5.out ((rd ((rd_T34 l0_0 x27_1).f3) x35_2) : Int) p30 q30
                                    replace p30 := eq_true p30
                                    replace q30 := eq_true q30
                                    have HP31 := Kd.R_putg HO_5.out ((rd ((rd_T34 l0_0 x27_1).f3) x35_2) : Int) x27_1
                                    go_wp2_with (first | ((with_reducible refine gate_store (t := 3) (p := 42) rfl ?_); refine store_event (t := 3) (p := 42) (v := ?vo_w32) (w1 := (wr.setCell ⟨go8, ((rd ((rd_T34 l0_0 x27_1).f3) x35_2) : Int).toNat, none⟩ (.int .i64 x27_1))) ?hg ?ho ?hn ?hr ?_; (case ho => rfl); (case hg => rfl); (case hn => rfl); (case hr => first | (go_simp; done) | (go_simp; rfl)); intro w32 hw; have hg : wr.grownBy w32 (some go8) := (by rw [hw]; exact HP31.2); have hp_ : Kd.R (Kd.int .i64) 3 w32 w.heap.size (fun _ => True) (.slice (some ⟨go8, 0, none⟩) x5_2.length co15) y178 := (by rw [hw, Ny178.out]; exact HP31.1); clear HP31; have n0_ := Aside0.mk (hp_); have n1_ := Aside0.mk (blk_grown (g := gb168) (o := .cells #[.slice (some ad175) l0_0.length c0_0] 24 (0, 0)) (by (with_reducible repeat (first | refine blk_drewN ?_ _ | refine blk_drew ?_ | refine blk_alloc ?_ _)); exact BK168.out) hg (Kd.R_ne HO_5.out BK168.out (by decide))); have n2_ := Aside0.mk (blk_grown (g := gb176) (o := .cells #[.int .i64 ((rd_T34 l0_0 x27_1).f0), .int .i64 ((rd_T34 l0_0 x27_1).f1), .int .i64 ((rd_T34 l0_0 x27_1).f2), .slice (some ad177) ((rd_T34 l0_0 x27_1).f3).length c175_3] 34 (0, 0)) (by (with_reducible repeat (first | refine blk_drewN ?_ _ | refine blk_drew ?_ | refine blk_alloc ?_ _)); exact BK176.out) hg (Kd.R_ne HO_5.out BK176.out (by decide))); have n3_ := Aside0.mk ((by rw [hw]; exact below_set (HB.out) GB8.out : Below w.heap.size w w32)); clear HO_5; clear BK168; clear BK176; clear HB; have HO_5 := n0_; have BK168 := n1_; have BK176 := n2_; have HB := n3_; clear n0_ n1_ n2_ n3_; clear hg hw hp_))
                                    (try simp only [← hl5_2])
                                    go_roundg k2
                                    case measure => have := HK1.out; have := HK2.out; omega
                                    case rel => exact ⟨(y178), (wrap64 (x35_2 + 1)), (by first | rfl | (simp; done) | (simp [*]; done)), H', ⟨by have := HK1.out; have := HK2.out; omega⟩, ⟨by (try simp only [hl5_1]); (try simp only [hl5_2]); (with_reducible repeat (first | apply Kd.R_alloc | apply Kd.R_drewN | apply Kd.R_drew)); exact HO_5.out⟩, ⟨by (try simp only [hl5_1]); (try simp only [hl5_2]); (with_reducible repeat (first | refine blk_drewN ?_ _ | refine blk_drew ?_ | refine blk_alloc ?_ _)); exact BK168.out⟩, ⟨by (try simp only [hl5_1]); (try simp only [hl5_2]); (with_reducible repeat (first | refine blk_drewN ?_ _ | refine blk_drew ?_ | refine blk_alloc ?_ _)); exact BK176.out⟩, ⟨by repeat (first | (with_reducible first | exact HB.out | apply below_alloc | apply pw_below_drewN | apply below_drew1 | refine below_set ?_ GE168.out | refine below_set ?_ GE176.out) | exact HB.out)⟩⟩
                                  · rw [if_neg c29] at H
                                    exact absurd H (by simp)
                                · rw [if_neg c28] at H
                                  exact absurd H (by simp)
                              · rw [if_neg c27] at H
                                exact absurd H (by simp)
                            · rw [if_neg c26] at H
                              exact absurd H (by simp)
                          · rw [if_neg c25] at H
                            have c25b0 : decide (x35_2 < (((rd_T34 l0_0 x27_1).f3).length : Int)) = false := decide_eq_false c25
                            clear c25
                            have H' := Aside0.mk H
                            clear H
                            go_wp2
                            (try simp only [← hl5_1, ← hl5_2])
                            go_roundg k2
                            case measure => have := HK1.out; have := HK2.out; omega
                            case rel => exact ⟨(x5_2), (wrap64 (x27_1 + 1)), (by first | rfl | (simp; done) | (simp [*]; done)), H', ⟨by have := HK1.out; have := HK2.out; omega⟩, ⟨by (try simp only [hl5_1]); (try simp only [hl5_2]); (with_reducible repeat (first | apply Kd.R_alloc | apply Kd.R_drewN | apply Kd.R_drew)); exact HO_5.out⟩, ⟨by (try simp only [hl5_1]); (try simp only [hl5_2]); (with_reducible repeat (first | refine blk_drewN ?_ _ | refine blk_drew ?_ | refine blk_alloc ?_ _)); exact BK168.out⟩, ⟨by repeat (first | (with_reducible first | exact HB.out | apply below_alloc | apply pw_below_drewN | apply below_drew1 | refine below_set ?_ GE168.out | refine below_set ?_ GE176.out) | exact HB.out)⟩⟩
                    · rw [if_neg c21] at H
                      exact absurd H (by simp)
                  · rw [if_neg c20] at H
                    exact absurd H (by simp)
                · rw [if_neg c19] at H
                  have c19b0 : decide (x27_1 < (l0_0.length : Int)) = false := decide_eq_false c19
                  clear c19
                  simp only [Option.some.injEq, Prod.mk.injEq] at H
                  obtain ⟨rfl, rfl⟩ := H
                  go_wp2
                  go_ret2
                  exact ⟨_, by first | rfl | (simp [errW_none, errW_some, erT_no, erV_no, erT_at, erV_at] <;> rfl) | (simp only [← hji5]; first | rfl | (simp [errW_none, errW_some, erT_no, erV_no, erT_at, erV_at] <;> rfl)) | (simp [*, errW_none, errW_some, erT_no, erV_no, erT_at, erV_at] <;> rfl), by (with_reducible repeat (first | apply Kd.R_alloc | apply Kd.R_drewN | apply Kd.R_drew)); exact HO_5.out, by repeat (first | (with_reducible first | exact HB.out | apply below_alloc | apply pw_below_drewN | apply below_drew1 | refine below_set ?_ GE168.out) | exact HB.out)⟩
          · rw [if_neg c7] at H
            exact absurd H (by simp)
        · rw [if_neg c6] at H
          exact absurd H (by simp)
      · rw [if_neg c4] at H
        exact absurd H (by simp)
    · rw [if_neg c3] at H
      exact absurd H (by simp)
  · have H1 : (some (([] : List Int), some q170)) = some (r1, r2) := by rw [if_neg (show ¬ (some q170).isNone = true by simp)] at H; exact H
    clear H
    have H := H1
    clear H1
    try simp only [errW_none, errW_some, erT_no, erV_no, erT_at, erV_at]
    simp only [Option.some.injEq, Prod.mk.injEq] at H
    obtain ⟨rfl, rfl⟩ := H
    go_enter Tryd.func14, Tryd.ntmps14
    go_wp2_with (first | ((with_reducible refine gate_dst (N := 1) rfl ?_); refine box_event ?hg (N := 1) ?hd (cs := #[.slice A0_0 l0_0.length c0_0]) (t := 24) ?hr ?_; (case hd => rfl); (case hg => rfl); (case hr => first | (go_simp; done) | (go_simp; rfl)); intro gb168 hg w33 hbox hb; have n0_ := Aside0.mk (below_step (by repeat (first | (with_reducible first | exact HB.out | apply below_alloc | apply pw_below_drewN | apply below_drew1) | exact HB.out)) hb); have n1_ := Aside0.mk (hbox); have n2_ := Aside0.mk ((by rw [hg]; exact (below_size (by repeat (first | (with_reducible first | exact HB.out | apply below_alloc | apply pw_below_drewN | apply below_drew1) | exact HB.out))) : w.heap.size ≤ gb168)); have n3_ := Aside0.mk ((by rw [hg]; exact (below_size (by repeat (first | (with_reducible first | exact HB.out | apply below_alloc | apply pw_below_drewN | apply below_drew1) | exact HB.out))) : w.heap.size ≤ gb168)); clear HB; have HB := n0_; have BK168 := n1_; have GW168 := n2_; have GE168 := n3_; clear n0_ n1_ n2_ n3_; clear hb hbox hg; have hcz34_0 : w33.cell? ⟨gb168, 0, none⟩ = some (.slice A0_0 l0_0.length c0_0) := (blk_cell BK168.out 0).trans rfl; have hfz34_0 := blk_frozen BK168.out 0) | ((with_reducible refine gate_callee (f := 39) rfl ?_); refine goesL_ (some 11) rfl rfl Tryd.func39 (by kernel_rfl) rfl #[.agg #[.slice A0_0 l0_0.length c0_0]] rfl (by (try simp only [List.map_toArray, List.map_cons, List.map_nil]); first | done | rfl | (simp only [List.length_drop, List.length_take]; rfl)) ?_; (with_reducible refine (tree_sound.calls k _ _ l0_0 (some q170) _ ?side1 ?side2 A2.out).mono ?_); (case side1 => repeat (first | exact (Kd.C_below HR0_0.out HB.out) | (with_reducible refine Kd.C_alloc ?_ _) | (with_reducible refine Kd.C_drewN ?_ _) | (with_reducible refine Kd.C_drew ?_))); (case side2 => exact HC0_0.out); rintro e w35 ⟨rfl, hb⟩; refine ⟨_, rfl, ?_⟩; have n0_ := Aside0.mk (blk_below (g := gb168) (o := .cells #[.slice A0_0 l0_0.length c0_0] 24 (0, 0)) (by (with_reducible repeat (first | refine blk_drewN ?_ _ | refine blk_drew ?_ | refine blk_alloc ?_ _)); exact BK168.out) hb); have n1_ := Aside0.mk (below_step (by repeat (first | (with_reducible first | exact HB.out | apply below_alloc | apply pw_below_drewN | apply below_drew1 | refine below_set ?_ GE168.out) | exact HB.out)) hb); clear BK168; clear HB; have BK168 := n0_; have HB := n1_; clear n0_ n1_; (try clear hb); (try clear hb2); (try clear hk); (try clear hi); (try simp only [errW_none, errW_some, erT_no, erV_no, erT_at, erV_at])))
    go_ret2
    exact ⟨_, by first | rfl | (simp [errW_none, errW_some, erT_no, erV_no, erT_at, erV_at] <;> rfl) | (simp [*, errW_none, errW_some, erT_no, erV_no, erT_at, erV_at] <;> rfl), by first | exact Kd.R_nil _ _ _ _ _ | exact Kd.N_nil _ _ _ _ _ | exact Kd.V_nil _ _ _ _ _ | exact Kd.Q_nil _ _ _ _ _ | exact Kd.S_nil _ _ _ _ _, by repeat (first | (with_reducible first | exact HB.out | apply below_alloc | apply pw_below_drewN | apply below_drew1 | refine below_set ?_ GE168.out) | exact HB.out)⟩

end Go.Proofs.YtnpgadfoohjlnabDoor.QT
