/- Where a Lean function of this text answers, the Go function of its name comes to that answer: no other condition. Written by a program of this session out of the translation; Lean checks it. -/
import Derived.Test.YtnpgadfoohjlnaaDoorQT0
import Derived.Test.YtnpgadfoohjlnaaDoorQT5
namespace Go.Proofs.YtnpgadfoohjlnaaDoor.QT
open Go.RowKit Go.Proofs.YtnpgadfoohjlnaaDoorW.PrintWords Go.Proofs.YtnpgadfoohjlnaaDoorW.PrintLast Go.Proofs.YtnpgadfoohjlnaaDoorW.PrintMore Go.Proofs.YtnpgadfoohjlnaaDoorW.PrintX
attribute [local go_sem] max2_int min2_int max_two min_two max_three min_three max_four min_four   -- for this text's walks alone
set_option linter.unusedVariables false
set_option linter.unusedSimpArgs false

/-! ### tree_Own: function 21 -/
/-- The tokens so far lie in a row of the closure's own, which the variable of block g holds. -/
def tree_Own.J (B g : Nat) (N : Nat → Prop) (s : List Int) (W : World) : Prop :=
  ∃ v : Value, W.heap[g]? = some (.cells #[v] 31 (0, 0)) ∧ (Kd.int .i64).R 3 W B (fun k => k ≠ g ∧ ¬ N k) v s
def tree_Own.tok (s : List Int) (i : Int) : Option (List Int) := if s.length < 17592186044416 then some (s ++ [i]) else none
def tree_Own.kid (s : List Int) (_ : Int) : Option (List Int) := some s
theorem tree_Own.below {B g : Nat} {N : Nat → Prop} {s : List Int} {W W' : World} (h : tree_Own.J B g N s W) (hb : Below W.heap.size W W') : tree_Own.J B g N s W' := by
  obtain ⟨v, h1, h2⟩ := h
  exact ⟨v, blk_below h1 hb, Kd.R_below h2 hb⟩
theorem tree_Own.set {B g : Nat} {N : Nat → Prop} {s : List Int} {W : World} (hg : ¬ N g) (k j : Nat) (u : Value) (hk : N k) (h : tree_Own.J B g N s W) : tree_Own.J B g N s (W.setCell ⟨k, j, none⟩ u) := by
  obtain ⟨v, h2, h3⟩ := h
  exact ⟨v, blk_far h2 (p := ⟨k, j, none⟩) (fun e => by subst e; exact hg hk) _, Kd.R_keep (g := k) h3 ((KeepBut.refl _ _ _).set_ j _) (fun q hq e => by subst e; exact hq.2 hk)⟩
set_option maxHeartbeats 4000000 in
set_option maxRecDepth 100000 in
theorem tree_Own.tok_step {B g : Nat} {N : Nat → Prop} {w0 : World} (hB : B ≤ g) (hg : ¬ N g) : tree_parts.Step (tree_Own.J B g N) tree_Own.tok B N 59 #[.pointer (some ⟨g, 0, none⟩)] w0 := by
  refine ⟨fun args w => enters_ Tryd.func59 rfl rfl args w, fun s i s' W hz hs hJ hw => ?_⟩
  obtain ⟨v, h1, h2⟩ := hJ
  unfold tree_Own.tok at hs
  split at hs
  case isFalse => cases hs
  rename_i hl
  cases hs
  have hgs := blk_lt h1
  have q1 := blk_cell h1 0
  have z1 := blk_frozen h1 0
  simp only [List.getElem?_toArray, List.getElem?_cons_zero] at q1
  have HL := Aside0.mk hl
  have H1 := Aside0.mk h1
  have H2 := Aside0.mk h2
  have HW := Aside0.mk hw
  have NN := Aside0.mk (⟨hB, hgs⟩ : B ≤ g ∧ g < W.heap.size)
  have NL := Aside0.mk (show ∀ k, N k → k < W.heap.size ∧ k ≠ g from fun k hk => by
    obtain ⟨c, t, h3, _⟩ := hz k hk
    exact ⟨blk_lt h3, fun e => by subst e; exact hg hk⟩)
  clear hl h1 h2 hz hw hB hg hgs
  show Calls Tryd.prog 59 #[.int .i64 i, .pointer (some ⟨g, 0, none⟩)] W _
  go_enter Tryd.func59, Tryd.ntmps59
  go_wp2_with (first
    | ((with_reducible refine gate_builtin (b := .append) (xs := #[.tmp 3, .tmp 5]) rfl ?_); at_builtin; refine Kd.R_append (Kd.int .i64) (w0 := w0) B rfl (.tmp 3) (.tmp 5) 31 3 (.int .i64 0) 8 rfl Tryd.underlying31 info3 rfl (by decide) (by omega) v s i [.int .i64 i] (fun k => k ≠ g ∧ ¬ N k) (fun _ => False) rfl rfl rfl (fun _ hk => hk.elim) (fun k hk => ⟨by have := NN.out; omega, fun hk' => by have := (NL.out k hk').1; omega⟩) H2.out HW.out (by have := NN.out; omega) (by have := HL.out; omega) ?_; intro v1 w1 ho hb hgr hat; have g1 := (hgr.block g (by have := NN.out; exact this.2) (fun e_ => ((H2.out).1 g e_.symm).1 rfl)).trans H1.out; have fz := blk_frozen g1 0; have qz := blk_cell g1 0; simp only [List.getElem?_toArray, List.getElem?_cons_zero] at qz; have G1 := Aside0.mk g1; have HO := Aside0.mk ho; have HB := Aside0.mk hb; have GR := Aside0.mk hgr; obtain ⟨Av, cv, ev⟩ := Kd.R_slice ho; clear g1 ho hb hgr hat; rw [List.length_append, List.length_singleton] at ev; subst ev))
  refine bodyPost_end (results_none rfl _ _ _) rfl ?_
  have hkb : ∀ k, N k → (w1.setCell ⟨g, 0, none⟩ (.slice Av (s.length + 1) cv)).heap[k]? = W.heap[k]? := fun k h0 =>
    (Below.heap_setCell w1 ⟨g, 0, none⟩ _ k (NL.out k h0).2).trans (GR.out.block k (NL.out k h0).1 (fun e_ => ((H2.out).1 k e_.symm).2 h0))
  exact ⟨rfl, ⟨_, blk_put G1.out 0 _ rfl, Kd.R_keep (g := g) HO.out ((KeepBut.refl _ _ _).set_ 0 _) (fun k_ hk_ => hk_.1)⟩, HB.out.setCell (p := ⟨g, 0, none⟩) NN.out.1 _, hkb⟩
set_option maxHeartbeats 4000000 in
theorem tree_Own.kid_step {J : List Int → World → Prop} {B : Nat} {N : Nat → Prop} {w0 : World} : tree_parts.Step J tree_Own.kid B N 58 #[] w0 := by
  refine ⟨fun args w => enters_ Tryd.func58 rfl rfl args w, fun s i s' W hz hs hJ hw => ?_⟩
  cases hs
  have HJ := Aside0.mk hJ
  have HW := Aside0.mk hw
  clear hJ hw
  show Calls Tryd.prog 58 #[.int .i64 i] W _
  go_enter Tryd.func58, Tryd.ntmps58
  go_wp2
  refine bodyPost_end (results_none rfl _ _ _) rfl ?_
  exact ⟨rfl, HJ.out, HW.out, fun _ _ => rfl⟩
def tree_Own.f (k : Nat) (l0_0 : List (S33)) (a1 : Int) : Option (List Int × Option Er) := (tree_sound.f k l0_0).bind fun t => if t.isNone = true then (if a1 < 0 then some (([] : List Int), some (Er.no 4)) else if a1 ≥ (l0_0.length : Int) then some (([] : List Int), some (Er.no 4)) else (tree_parts.run tree_Own.tok tree_Own.kid l0_0 (rd_T33 l0_0 a1).f3 (rd_T33 l0_0 a1).f1 (rd_T33 l0_0 a1).f2 []).bind fun r => some (r, none)) else some (([] : List Int), some (t.getD (Er.no 0)))
theorem tree_Own.mono : ∀ a0 a1 k, LeO (tree_Own.f k a0 a1) (tree_Own.f (k + 1) a0 a1) := by
  intro a0 a1 k
  unfold tree_Own.f
  exact LeO.bind (tree_sound.mono a0 k) (fun _ => LeO.refl _)
set_option maxHeartbeats 8000000 in
set_option maxRecDepth 100000 in
theorem tree_Own.calls (k : Nat) (A0_0 : Option Addr) (c0_0 : Nat) (l0_0 : List (S33)) (a1 : Int) (r1 : List Int) (r2 : Option Er) (w : World) (hr0_0 : Kd.C k33 w A0_0 l0_0.length l0_0) (hc0_0 : l0_0.length ≤ c0_0) (h : tree_Own.f k l0_0 a1 = some (r1, r2)) :
    Calls Tryd.prog 21 #[.agg #[.slice A0_0 l0_0.length c0_0], .int .i64 a1] w fun e w' => ∃ v0_ : Value, e = .returned (.tuple #[v0_, errW r2]) ∧ Kd.R (Kd.int .i64) 3 w' w.heap.size (fun _ => True) v0_ r1 ∧ Below w.heap.size w w' := by
  obtain ⟨t, hs, h⟩ := Option.bind_eq_some_iff.mp h
  have AS := Aside0.mk hs
  have HR := Aside0.mk hr0_0
  have HC := Aside0.mk hc0_0
  clear hs hr0_0 hc0_0
  have hue := Tryd.underlying27
  have hun := Tryd.underlying82
  rcases t with _ | q
  · rw [if_pos (show (none : Option Er).isNone = true by rfl)] at h
    by_cases c0 : a1 < 0
    · rw [if_pos c0] at h
      cases h
      have c0b : decide (a1 < 0) = true := decide_eq_true c0
      go_enter Tryd.func21, Tryd.ntmps21
      go_wp2_with (first | ((with_reducible refine gate_dst (N := 2) rfl ?_); refine box_event ?hg (N := 2) ?hd (cs := #[.slice A0_0 l0_0.length c0_0]) (t := 24) ?hr ?_; (case hd => rfl); (case hg => rfl); (case hr => first | (go_simp; done) | (go_simp; rfl)); intro gb eggb w2 hxgb hbgb; have sggb := Nat.le_of_eq eggb.symm; clear eggb; have BB := Aside0.mk hbgb; have XB := Aside0.mk hxgb; have qb := blk_cell hxgb 0; simp only [List.getElem?_toArray, List.getElem?_cons_zero, List.getElem?_cons_succ] at qb; clear hbgb hxgb) | (go_at_call 56; (refine (tree_sound.calls k _ _ l0_0 none _ (Kd.C_below HR.out BB.out) HC.out AS.out).mono ?_); rintro e w3 ⟨rfl, hb3⟩; have B3 := Aside0.mk hb3; have q3 := blk_cell (blk_below XB.out hb3) 0; simp only [List.getElem?_toArray, List.getElem?_cons_zero, List.getElem?_cons_succ] at q3; clear hb3; try simp only [errW_none]))
      go_ret2
      exact ⟨.slice none 0 0, rfl, Kd.R_nil _ _ _ _ _, BB.out.trans (B3.out.mono BB.out.size)⟩
    · rw [if_neg c0] at h
      have c0b : decide (a1 < 0) = false := decide_eq_false c0
      by_cases c1 : a1 ≥ (l0_0.length : Int)
      · rw [if_pos c1] at h
        cases h
        have c1b : decide (a1 ≥ (l0_0.length : Int)) = true := decide_eq_true c1
        go_enter Tryd.func21, Tryd.ntmps21
        go_wp2_with (first | ((with_reducible refine gate_dst (N := 2) rfl ?_); refine box_event ?hg (N := 2) ?hd (cs := #[.slice A0_0 l0_0.length c0_0]) (t := 24) ?hr ?_; (case hd => rfl); (case hg => rfl); (case hr => first | (go_simp; done) | (go_simp; rfl)); intro gb eggb w2 hxgb hbgb; have sggb := Nat.le_of_eq eggb.symm; clear eggb; have BB := Aside0.mk hbgb; have XB := Aside0.mk hxgb; have qb := blk_cell hxgb 0; simp only [List.getElem?_toArray, List.getElem?_cons_zero, List.getElem?_cons_succ] at qb; clear hbgb hxgb) | (go_at_call 56; (refine (tree_sound.calls k _ _ l0_0 none _ (Kd.C_below HR.out BB.out) HC.out AS.out).mono ?_); rintro e w3 ⟨rfl, hb3⟩; have B3 := Aside0.mk hb3; have q3 := blk_cell (blk_below XB.out hb3) 0; simp only [List.getElem?_toArray, List.getElem?_cons_zero, List.getElem?_cons_succ] at q3; clear hb3; try simp only [errW_none]))
        go_ret2
        exact ⟨.slice none 0 0, rfl, Kd.R_nil _ _ _ _ _, BB.out.trans (B3.out.mono BB.out.size)⟩
      · rw [if_neg c1] at h
        have c1b : decide (a1 ≥ (l0_0.length : Int)) = false := decide_eq_false c1
        obtain ⟨r, hr, h⟩ := Option.bind_eq_some_iff.mp h
        cases h
        have AR := Aside0.mk hr
        clear hr
        have p0 : (0 ≤ a1) = True := eq_true (by omega)
        have p1 : (a1 < (l0_0.length : Int)) = True := eq_true (by omega)
        obtain ⟨ad, A3, c3, eA, x0, x1, x2, x3, _, hk3⟩ := at_T33 HR.out a1 (by omega) (by omega)
        subst eA
        have K3 := Aside0.mk hk3
        clear hk3
        go_enter Tryd.func21, Tryd.ntmps21
        go_wp2_with (first | ((with_reducible refine gate_dst (N := 2) rfl ?_); refine box_event ?hg (N := 2) ?hd (cs := #[.slice (some ad) l0_0.length c0_0]) (t := 24) ?hr ?_; (case hd => rfl); (case hg => rfl); (case hr => first | (go_simp; done) | (go_simp; rfl)); intro gb eggb w2 hxgb hbgb; have sggb := Nat.le_of_eq eggb.symm; clear eggb; have BB := Aside0.mk hbgb; have XB := Aside0.mk hxgb; have qb := blk_cell hxgb 0; simp only [List.getElem?_toArray, List.getElem?_cons_zero, List.getElem?_cons_succ] at qb; clear hbgb hxgb) | (go_at_call 56; (refine (tree_sound.calls k _ _ l0_0 none _ (Kd.C_below HR.out BB.out) HC.out AS.out).mono ?_); rintro e w3 ⟨rfl, hb3⟩; have B3 := Aside0.mk hb3; have q3 := blk_cell (blk_below XB.out hb3) 0; simp only [List.getElem?_toArray, List.getElem?_cons_zero, List.getElem?_cons_succ] at q3; clear hb3; try simp only [errW_none]) | ((with_reducible refine gate_dst (N := 7) rfl ?_); refine box_event ?hg (N := 7) ?hd (cs := #[.slice none 0 0]) (t := 31) ?hr ?_; (case hd => rfl); (case hg => rfl); (case hr => first | (go_simp; done) | (go_simp; rfl)); intro g egg w4 hxg hbg; have sgg := Nat.le_of_eq egg.symm; clear egg; have X4 := Aside0.mk hxg; have G4 := Aside0.mk (blk_lt hxg); have b4 := (BB.out.trans (B3.out.mono BB.out.size)).trans (hbg.mono (BB.out.trans (B3.out.mono BB.out.size)).size); have B4 := Aside0.mk b4; have GB := Aside0.mk (show w.heap.size ≤ g from Nat.le_trans (BB.out.trans (B3.out.mono BB.out.size)).size sgg); have q4 := blk_cell (blk_below (blk_below XB.out B3.out) hbg) 0; simp only [List.getElem?_toArray, List.getElem?_cons_zero, List.getElem?_cons_succ] at q4; have n0' := (b4.cell (World.block_lt_of_cell? w _ x0)).trans x0; have n1' := (b4.cell (World.block_lt_of_cell? w _ x1)).trans x1; have n2' := (b4.cell (World.block_lt_of_cell? w _ x2)).trans x2; have n3' := (b4.cell (World.block_lt_of_cell? w _ x3)).trans x3; clear hxg hbg b4 sgg q3))
        refine start_ (n := 8) (S := fun w' => w'.cell? ⟨gb, 0, none⟩ = some (.slice (some ad) l0_0.length c0_0) ∧ w'.cell? (ad.add (a1.toNat * 4)) = some (.int .i64 (rd_T33 l0_0 a1).f0) ∧ w'.cell? ⟨(ad.add (a1.toNat * 4)).block, (ad.add (a1.toNat * 4)).off + 1, none⟩ = some (.int .i64 (rd_T33 l0_0 a1).f1) ∧ w'.cell? ⟨(ad.add (a1.toNat * 4)).block, (ad.add (a1.toNat * 4)).off + 2, none⟩ = some (.int .i64 (rd_T33 l0_0 a1).f2) ∧ w'.cell? ⟨(ad.add (a1.toNat * 4)).block, (ad.add (a1.toNat * 4)).off + 3, none⟩ = some (.slice A3 (rd_T33 l0_0 a1).f3.length c3) ∧ Below w4.heap.size w4 w') (ds := [7]) #[false, false, false, false, false, false, false, false] (by kernel_rfl) rfl rfl ⟨q4, n0', n1', n2', n3', (Below.refl _ _).drew⟩ (fun hHeld => ?_)
        refine pure_ (i := 1) (N := some 24) (v := ?_) (a' := ?_) #[false, true, false, false, false, false, false, false] rfl rfl (by kernel_rfl) (fun _ _ _ h => h) (Or.inl ⟨by rfl, ?_⟩) ?_ ?_
        rotate_left
        · intro w'
          go_simp
          with_reducible rfl
        rotate_left
        · simp only [Act.put, List.setIfInBounds_toArray, List.set_cons_zero, List.set_cons_succ, i64_w, i32_w]
          rfl
        refine pure_ (i := 3) (N := some 26) (v := ?_) (a' := ?_) #[false, true, false, true, false, false, false, false] rfl rfl (by kernel_rfl) (fun _ _ _ h => h) (Or.inl ⟨by rfl, ?_⟩) ?_ ?_
        rotate_left
        · intro w'
          go_simp
          with_reducible rfl
        rotate_left
        · simp only [Act.put, List.setIfInBounds_toArray, List.set_cons_zero, List.set_cons_succ, i64_w, i32_w]
          rfl
        refine pure_ (i := 6) (N := some 29) (v := ?_) (a' := ?_) #[false, true, false, true, false, false, true, false] rfl rfl (by kernel_rfl) (fun _ _ _ h => h) (Or.inl ⟨by rfl, ?_⟩) ?_ ?_
        rotate_left
        · intro w'
          go_simp
          with_reducible rfl
        rotate_left
        · simp only [Act.put, List.setIfInBounds_toArray, List.set_cons_zero, List.set_cons_succ, i64_w, i32_w]
          rfl
        refine take_ (i := 0) (N := some 23) (v := ?_) (a' := ?_) #[true, true, false, true, false, false, true, false] rfl rfl (by kernel_rfl) (fun _ _ _ h => h) (Or.inl ⟨by rfl, ?_⟩) hHeld ?_ ?_
        rotate_left
        · rintro w' ⟨s0, s1, s2, s3, s4, s5⟩
          go_simp
          with_reducible rfl
        rotate_left
        · simp only [Act.put, List.setIfInBounds_toArray, List.set_cons_zero, List.set_cons_succ, i64_w, i32_w]
          rfl
        refine take_ (i := 2) (N := some 25) (v := ?_) (a' := ?_) #[true, true, true, true, false, false, true, false] rfl rfl (by kernel_rfl) (fun _ _ _ h => h) (Or.inl ⟨by rfl, ?_⟩) hHeld ?_ ?_
        rotate_left
        · rintro w' ⟨s0, s1, s2, s3, s4, s5⟩
          go_simp
          with_reducible rfl
        rotate_left
        · simp only [Act.put, List.setIfInBounds_toArray, List.set_cons_zero, List.set_cons_succ, i64_w, i32_w]
          rfl
        refine pure_ (i := 4) (N := some 27) (v := ?_) (a' := ?_) #[true, true, true, true, true, false, true, false] rfl rfl (by kernel_rfl) (fun _ _ _ h => h) (Or.inl ⟨by rfl, ?_⟩) ?_ ?_
        rotate_left
        · intro w'
          go_simp
          with_reducible rfl
        rotate_left
        · simp only [Act.put, List.setIfInBounds_toArray, List.set_cons_zero, List.set_cons_succ, i64_w, i32_w]
          rfl
        refine take_ (i := 5) (N := some 28) (v := ?_) (a' := ?_) #[true, true, true, true, true, true, true, false] rfl rfl (by kernel_rfl) (fun _ _ _ h => h) (Or.inl ⟨by rfl, ?_⟩) hHeld ?_ ?_
        rotate_left
        · rintro w' ⟨s0, s1, s2, s3, s4, s5⟩
          go_simp
          with_reducible rfl
        rotate_left
        · simp only [Act.put, List.setIfInBounds_toArray, List.set_cons_zero, List.set_cons_succ, i64_w, i32_w]
          rfl
        refine last_ (i := 7) (N := some 30) #[true, true, true, true, true, true, true, true] rfl rfl (by kernel_rfl) (by decide) (fun K hK => ?_)
        obtain ⟨s0, s1, s2, s3, s4, s5⟩ := hHeld
        refine goes_ Tryd.func57 (by kernel_rfl) rfl #[.agg #[.slice (some ad) l0_0.length c0_0], .agg #[.int .i64 (rd_T33 l0_0 a1).f0, .int .i64 (rd_T33 l0_0 a1).f1, .int .i64 (rd_T33 l0_0 a1).f2, .slice A3 (rd_T33 l0_0 a1).f3.length c3], .func (.func 58) #[] #[], .func (.func 59) #[] #[.pointer (some ⟨g, 0, none⟩)]] (by rfl) rfl rfl (by simp only [List.map_toArray, List.map_cons, List.map_nil]; rfl) ?_
        have GZ := Nat.lt_of_lt_of_le G4.out s5.size
        refine (tree_parts.calls (J := tree_Own.J w.heap.size g) (tok := tree_Own.tok) (kid := tree_Own.kid) (w0 := w) rfl (B4.out.trans (s5.mono B4.out.size)) (fun N s W W' h hb => tree_Own.below h hb) (fun N s W k j u hN h0 h => tree_Own.set (fun hg => by have := hN g hg; omega) k j u h0 h) (fun N hN => tree_Own.tok_step GB.out (fun hg => by have := hN g hg; omega)) (fun N _ => tree_Own.kid_step) _ _ l0_0 _ _ _ _ _ _ [] _ HR.out K3.out AR.out (fun N _ => ⟨_, blk_below X4.out s5, Kd.R_nil _ _ _ _ _⟩)).mono ?_
        rintro e w6 ⟨rfl, ⟨N6, _, v6, hg6, ho6⟩, hb6⟩
        refine ⟨_, rfl, ?_⟩
        have qv6 := blk_cell hg6 0
        simp only [List.getElem?_toArray, List.getElem?_cons_zero] at qv6
        have O6 := Aside0.mk ho6
        have B6 := Aside0.mk hb6
        clear hg6 hb6 ho6
        refine hK.out _ _ ?_
        clear hK K
        refine norm_ (a' := ?_) ?_ ?_
        rotate_left
        · show Act.put _ (some 30) _ = _
          simp only [Act.put, List.setIfInBounds_toArray, List.set_cons_zero, List.set_cons_succ, i64_w, i32_w]
          rfl
        refine done_ (by kernel_rfl) ?_

        go_wp2
        go_ret2
        exact ⟨v6, rfl, Kd.R_mono O6.out (fun _ _ => trivial), B6.out⟩
  · rw [if_neg (show ¬ ((some q : Option Er).isNone = true) by simp)] at h
    cases h
    go_enter Tryd.func21, Tryd.ntmps21
    go_wp2_with (first
      | ((with_reducible refine gate_dst (N := 2) rfl ?_); refine box_event ?hg (N := 2) ?hd (cs := #[.slice A0_0 l0_0.length c0_0]) (t := 24) ?hr ?_; (case hd => rfl); (case hg => rfl); (case hr => first | (go_simp; done) | (go_simp; rfl)); intro gb eggb w2 hxgb hbgb; have sggb := Nat.le_of_eq eggb.symm; clear eggb; have BB := Aside0.mk hbgb; have qb := blk_cell hxgb 0; simp only [List.getElem?_toArray, List.getElem?_cons_zero, List.getElem?_cons_succ] at qb; clear hbgb)
      | (go_at_call 56; (refine (tree_sound.calls k _ _ l0_0 (some q) _ (Kd.C_below HR.out BB.out) HC.out AS.out).mono ?_); rintro e w3 ⟨rfl, hb3⟩; have B3 := Aside0.mk hb3; clear hb3; try simp only [errW_some]))
    go_ret2
    exact ⟨.slice none 0 0, rfl, Kd.R_nil _ _ _ _ _, BB.out.trans (B3.out.mono BB.out.size)⟩

/-! ### cavilref13_Deep: function 22 -/
mutual
def cavilref13_Deep.l0 : Nat → Int → Int → Int → List (S33) → Option (Int)
  | 0, _, _, _, _ => none
  | k + 1, x1, x5, x6, x232000 => if 0 ≤ x1 then (if x1 < (x232000.length : Int) then (if x6 < (((rd_T33 x232000 x1).f3).length : Int) then (if 0 ≤ x6 then ((cavilref13_Deep.f k x232000 (rd ((rd_T33 x232000 x1).f3) x6)).bind fun t235 => (cavilref13_Deep.l0 k x1 (mx x5 t235) (wrap64 (x6 + 1)) x232000)) else (none)) else (some (wrap64 (1 + x5)))) else (none)) else (none)
def cavilref13_Deep.f : Nat → List (S33) → Int → Option (Int)
  | 0, _, _ => none
  | k + 1, l0_0, a1 => cavilref13_Deep.l0 k a1 0 0 l0_0
end
theorem cavilref13_Deep.mono_l : ∀ k, (∀ y0 y1, LeO (cavilref13_Deep.f k y0 y1) (cavilref13_Deep.f (k + 1) y0 y1)) ∧ (∀ y0 y1 y2 y3, LeO (cavilref13_Deep.l0 k y0 y1 y2 y3) (cavilref13_Deep.l0 (k + 1) y0 y1 y2 y3))
  | 0 => ⟨fun _ _ r h => by simp [cavilref13_Deep.f] at h, fun _ _ _ _ r h => by simp [cavilref13_Deep.l0] at h⟩
  | k + 1 => by
    obtain ⟨ih0, ih1⟩ := cavilref13_Deep.mono_l k
    refine ⟨?_, ?_⟩
    · intro y0 y1
      unfold cavilref13_Deep.f
      repeat' first
      | (with_reducible exact ih0 _ _)
      | (with_reducible exact ih1 _ _ _ _)
      | (with_reducible exact LeO.refl _)
      | (with_reducible exact LeO.none _)
      | (with_reducible refine LeO.ite ?_ ?_)
      | (with_reducible refine LeO.bind ?_ (fun _ => ?_))
      | exact ih0 _ _
      | exact ih1 _ _ _ _
      | exact LeO.none _
      | refine LeO.ite ?_ ?_
      | refine LeO.bind ?_ (fun _ => ?_)
    · intro y0 y1 y2 y3
      unfold cavilref13_Deep.l0
      repeat' first
      | (with_reducible exact ih0 _ _)
      | (with_reducible exact ih1 _ _ _ _)
      | (with_reducible exact LeO.refl _)
      | (with_reducible exact LeO.none _)
      | (with_reducible refine LeO.ite ?_ ?_)
      | (with_reducible refine LeO.bind ?_ (fun _ => ?_))
      | exact ih0 _ _
      | exact ih1 _ _ _ _
      | exact LeO.none _
      | refine LeO.ite ?_ ?_
      | refine LeO.bind ?_ (fun _ => ?_)
theorem cavilref13_Deep.mono : ∀ a0 a1 k, LeO (cavilref13_Deep.f k a0 a1) (cavilref13_Deep.f (k + 1) a0 a1) := by
  intro a0 a1 k
  obtain ⟨ih0, ih1⟩ := cavilref13_Deep.mono_l k
  exact ih0 a0 a1
def cavilref13_Deep.T5 : Bool × List (List Nat × List Nat) := (true, [([], []), ([], []), ([], []), ([2], [2]), ([], []), ([3, 4], [3, 4]), ([5], [5]), ([6], [6]), ([], []), ([7, 8], [7, 8]), ([9], [9]), ([1, 10], [1, 10]), ([0, 11], [0, 11]), ([12, 11, 0, 1, 2, 3, 4, 5, 6, 7, 8, 9, 10, 11, 12], [0, 12])])
def cavilref13_Deep.B5 : List Nat := [0, 0, 0, 4, 0, 28, 60, 124, 0, 508, 1020, 2046, 4095, 8191]
theorem cavilref13_Deep.tab5 : rtab .any (opsOf Tryd.f22 5) = cavilref13_Deep.T5 := by kernel_rfl
theorem cavilref13_Deep.bits5 : waitsOk cavilref13_Deep.T5.2 cavilref13_Deep.B5 = true := by kernel_rfl
set_option maxHeartbeats 8000000 in
set_option maxRecDepth 100000 in
theorem cavilref13_Deep.calls (k : Nat) : ∀ (A0_0 : Option Addr) (c0_0 : Nat) (l0_0 : List (S33)) (a1 : Int) (r : Int) (w : World) (hr0_0 : Kd.C k33 w A0_0 l0_0.length l0_0) (hc0_0 : l0_0.length ≤ c0_0) (h : cavilref13_Deep.f k l0_0 a1 = some r),
    Calls Tryd.prog 22 #[.agg #[.slice A0_0 l0_0.length c0_0], .int .i64 a1] w fun e w' => e = .returned (.int .i64 r) ∧ Below w.heap.size w w' := by
  induction k using Nat.strongRecOn with
  | _ k ih =>
  intro A0_0 c0_0 l0_0 a1 r w hr0_0 hc0_0 h
  cases k with
  | zero => exact absurd h (by simp [cavilref13_Deep.f])
  | succ k =>
  simp only [cavilref13_Deep.f] at h
  have hu24 := Tryd.underlying24
  have HR0_0 := Aside0.mk hr0_0
  have HC0_0 := Aside0.mk hc0_0
  clear hr0_0 hc0_0
  have HB := Aside0.mk (Below.refl w.heap.size w)
  have H : (cavilref13_Deep.l0 k a1 0 0 l0_0) = some r := h
  clear h
  have H' := Aside0.mk H
  clear H
  go_enter Tryd.func22, Tryd.ntmps22
  go_wp2_with (first | ((with_reducible refine gate_dst (N := 2) rfl ?_); refine box_event ?hg (N := 2) ?hd (cs := #[.slice A0_0 l0_0.length c0_0]) (t := 24) ?hr ?_; (case hd => rfl); (case hg => rfl); (case hr => first | (go_simp; done) | (go_simp; rfl)); intro gb231 hg w3 hbox hb; have n0_ := Aside0.mk (below_step (by repeat (first | (with_reducible first | exact HB.out | apply below_alloc | apply pw_below_drewN | apply below_drew1) | exact HB.out)) hb); have n1_ := Aside0.mk (hbox); have n2_ := Aside0.mk ((by rw [hg]; exact (below_size (by repeat (first | (with_reducible first | exact HB.out | apply below_alloc | apply pw_below_drewN | apply below_drew1) | exact HB.out))) : w.heap.size ≤ gb231)); have n3_ := Aside0.mk ((by rw [hg]; exact (below_size (by repeat (first | (with_reducible first | exact HB.out | apply below_alloc | apply pw_below_drewN | apply below_drew1) | exact HB.out))) : w.heap.size ≤ gb231)); clear HB; have HB := n0_; have BK231 := n1_; have GW231 := n2_; have GE231 := n3_; clear n0_ n1_ n2_ n3_; clear hb hbox hg))
  go_loopg [5, 6] k (fun kq v5 v6 w' => ∃ (x5_1 : Int) (x6_1 : Int), v5 = .int .i64 x5_1 ∧ v6 = .int .i64 x6_1 ∧ Aside0 (cavilref13_Deep.l0 kq a1 x5_1 x6_1 l0_0 = some r) ∧ Aside0 (kq ≤ k) ∧ Aside0 (w'.heap[gb231]? = some (.cells #[(.slice A0_0 l0_0.length c0_0)] 24 (0, 0))) ∧ Aside0 (Below w.heap.size w w'))
  case atStart => exact ⟨(0), (0), (by first | rfl | (simp; done) | (simp [*]; done)), (by first | rfl | (simp; done) | (simp [*]; done)), H', ⟨Nat.le_refl _⟩, ⟨by (with_reducible repeat (first | refine blk_drewN ?_ _ | refine blk_drew ?_ | refine blk_alloc ?_ _)); exact BK231.out⟩, ⟨by repeat (first | (with_reducible first | exact HB.out | apply below_alloc | apply pw_below_drewN | apply below_drew1 | refine below_set ?_ GE231.out) | exact HB.out)⟩⟩
  case round =>
    clear H'
    try clear c2
    try clear p2
    obtain ⟨x5_1, x6_1, rfl, rfl, HA, HK1, BK231, HB⟩ := hrel
    cases gk with
    | zero => exact absurd HA.out (by simp [cavilref13_Deep.l0])
    | succ k1 =>
      have H := HA.out
      clear HA
      simp only [cavilref13_Deep.l0] at H
      by_cases c4 : 0 ≤ a1
      · rw [if_pos c4] at H
        have c4b0 : decide (0 ≤ a1) = true := decide_eq_true c4
        clear c4
        by_cases c5 : a1 < (l0_0.length : Int)
        · rw [if_pos c5] at H
          have c5b0 : decide (a1 < (l0_0.length : Int)) = true := decide_eq_true c5
          clear c5
          by_cases c6 : x6_1 < (((rd_T33 l0_0 a1).f3).length : Int)
          · rw [if_pos c6] at H
            have c6b0 : decide (x6_1 < (((rd_T33 l0_0 a1).f3).length : Int)) = true := decide_eq_true c6
            clear c6
            by_cases c7 : 0 ≤ x6_1
            · rw [if_pos c7] at H
              have c7b0 : decide (0 ≤ x6_1) = true := decide_eq_true c7
              clear c7
              replace H := Option.bind_eq_some_iff.mp H
              obtain ⟨t235, A80, H⟩ := H
              replace H : (cavilref13_Deep.l0 k1 a1 (mx x5_1 t235) (wrap64 (x6_1 + 1)) l0_0) = some r := H
              have A8 := Aside0.mk A80
              clear A80
              obtain ⟨ji9, hji9⟩ : ∃ j_ : Int, (mx x5_1 t235) = j_ := ⟨_, rfl⟩
              replace H : (cavilref13_Deep.l0 k1 a1 ji9 (wrap64 (x6_1 + 1)) l0_0) = some r := by first | (rw [hji9] at H; exact H) | (simp only [hji9] at H ⊢; exact H)
              (try rw [hji9] at A8)
              have hji9_ : (if x5_1 < t235 then t235 else x5_1) = ji9 := hji9
              have H' := Aside0.mk H
              clear H
              have hcz10_0 : wr.cell? ⟨gb231, 0, none⟩ = some (.slice A0_0 l0_0.length c0_0) := (blk_cell BK231.out 0).trans rfl
              have hfz10_0 := blk_frozen BK231.out 0
              have p232 : 0 ≤ (a1 : Int) := of_decide_eq_true (by first | (with_reducible assumption) | assumption)
              have q232 : a1 < (l0_0.length : Int) := of_decide_eq_true (by first | (with_reducible assumption) | assumption)
              obtain ⟨ad232, A232_3, c232_3, e232, hx232_0, hx232_1, hx232_2, hx232_3, hl232_3, hi232_3⟩ := at_T33 HR0_0.out a1 p232 q232
              cases e232
              replace hx232_0 := (HB.out.cell (World.block_lt_of_cell? w _ hx232_0)).trans hx232_0
              replace hx232_1 := (HB.out.cell (World.block_lt_of_cell? w _ hx232_1)).trans hx232_1
              replace hx232_2 := (HB.out.cell (World.block_lt_of_cell? w _ hx232_2)).trans hx232_2
              replace hx232_3 := (HB.out.cell (World.block_lt_of_cell? w _ hx232_3)).trans hx232_3
              have HR232_3 := Aside0.mk hi232_3
              have HC232_3 := Aside0.mk hl232_3
              clear hi232_3 hl232_3
              replace p232 := eq_true p232
              replace q232 := eq_true q232
              try go_wp2
              have n0_ := Aside0.mk (blk_drew BK231.out)
              have n1_ := Aside0.mk (below_drew1 HB.out)
              clear BK231
              clear HB
              have BK231 := n0_
              have HB := n1_
              clear n0_ n1_
              have p233 : 0 ≤ (a1 : Int) := of_decide_eq_true (by first | (with_reducible assumption) | assumption)
              have q233 : a1 < (l0_0.length : Int) := of_decide_eq_true (by first | (with_reducible assumption) | assumption)
              obtain ⟨ad233, A233_3, c233_3, e233, hx233_0, hx233_1, hx233_2, hx233_3, hl233_3, hi233_3⟩ := at_T33 HR0_0.out a1 p233 q233
              have hw233_3 := hx233_3
              have hw233_2 := hx233_2
              have hw233_1 := hx233_1
              have hw233_0 := hx233_0
              obtain rfl : ad232 = ad233 := (by injection e233)
              replace hx233_0 := (HB.out.cell (World.block_lt_of_cell? w _ hx233_0)).trans hx233_0
              replace hx233_1 := (HB.out.cell (World.block_lt_of_cell? w _ hx233_1)).trans hx233_1
              replace hx233_2 := (HB.out.cell (World.block_lt_of_cell? w _ hx233_2)).trans hx233_2
              replace hx233_3 := (HB.out.cell (World.block_lt_of_cell? w _ hx233_3)).trans hx233_3
              have HR233_3 := Aside0.mk hi233_3
              have HC233_3 := Aside0.mk hl233_3
              clear hi233_3 hl233_3
              replace p233 := eq_true p233
              replace q233 := eq_true q233
              have p234 : 0 ≤ (x6_1 : Int) := of_decide_eq_true (by first | (with_reducible assumption) | assumption)
              have q234 : x6_1 < (((rd_T33 l0_0 a1).f3).length : Int) := of_decide_eq_true (by first | (with_reducible assumption) | assumption)
              obtain ⟨ad234, e234, hx234_0⟩ := Kd.at_int HR233_3.out x6_1 p234 q234
              have hw234_0 := hx234_0
              cases e234
              replace hx234_0 := (HB.out.cell (World.block_lt_of_cell? w _ hx234_0)).trans hx234_0
              replace p234 := eq_true p234
              replace q234 := eq_true q234
              refine start_ (n := 14) (S := fun w' => w'.cell? ⟨gb231, 0, none⟩ = some (.slice (some ad232) l0_0.length c0_0) ∧ w'.cell? (ad232.add ((a1).toNat * 4)) = some (.int .i64 ((rd_T33 l0_0 a1).f0)) ∧ w'.cell? ⟨(ad232.add ((a1).toNat * 4)).block, (ad232.add ((a1).toNat * 4)).off + 1, none⟩ = some (.int .i64 ((rd_T33 l0_0 a1).f1)) ∧ w'.cell? ⟨(ad232.add ((a1).toNat * 4)).block, (ad232.add ((a1).toNat * 4)).off + 2, none⟩ = some (.int .i64 ((rd_T33 l0_0 a1).f2)) ∧ w'.cell? ⟨(ad232.add ((a1).toNat * 4)).block, (ad232.add ((a1).toNat * 4)).off + 3, none⟩ = some (.slice (some ad234) ((rd_T33 l0_0 a1).f3).length c233_3) ∧ w'.cell? (ad234.add (x6_1).toNat) = some (.int .i64 (rd ((rd_T33 l0_0 a1).f3) x6_1))) (ds := []) #[false, false, false, false, false, false, false, false, false, false, false, false, false, false] (by kernel_rfl) rfl rfl ⟨(blk_cell BK231.out 0).trans rfl, ((HB.out.cell (World.block_lt_of_cell? w _ hw233_0)).trans hw233_0), ((HB.out.cell (World.block_lt_of_cell? w _ hw233_1)).trans hw233_1), ((HB.out.cell (World.block_lt_of_cell? w _ hw233_2)).trans hw233_2), ((HB.out.cell (World.block_lt_of_cell? w _ hw233_3)).trans hw233_3), ((HB.out.cell (World.block_lt_of_cell? w _ hw234_0)).trans hw234_0)⟩ (fun hHeld => ?_); refine with_tabW cavilref13_Deep.tab5 cavilref13_Deep.bits5 (fun HT_ HW_ => ?_)
              generalize wr.drew = w11 at BK231 HB HR233_3 hx233_0 hx233_1 hx233_2 hx233_3 hx234_0 hHeld ⊢
              refine pure_ (i := 0) (N := some 18) (v := ?_) (a' := ?_) #[true, false, false, false, false, false, false, false, false, false, false, false, false, false] rfl rfl (any_of HT_.out (by kernel_rfl)) (fun _ _ _ h => h) (Or.inl ⟨by rfl, ?_⟩) ?_ ?_
              rotate_left
              · intro w'
                go_simp
                with_reducible rfl
              rotate_left
              · simp only [Act.put, List.setIfInBounds_toArray, List.set_cons_zero, List.set_cons_succ, i64_w, i32_w]
                rfl
              refine pure_ (i := 2) (N := some 20) (v := ?_) (a' := ?_) #[true, false, true, false, false, false, false, false, false, false, false, false, false, false] rfl rfl (any_of HT_.out (by kernel_rfl)) (fun _ _ _ h => h) (Or.inl ⟨by rfl, ?_⟩) ?_ ?_
              rotate_left
              · intro w'
                go_simp
                with_reducible rfl
              rotate_left
              · simp only [Act.put, List.setIfInBounds_toArray, List.set_cons_zero, List.set_cons_succ, i64_w, i32_w]
                rfl
              refine pure_ (i := 4) (N := some 22) (v := ?_) (a' := ?_) #[true, false, true, false, true, false, false, false, false, false, false, false, false, false] rfl rfl (any_of HT_.out (by kernel_rfl)) (fun _ _ _ h => h) (Or.inl ⟨by rfl, ?_⟩) ?_ ?_
              rotate_left
              · intro w'
                go_simp
                with_reducible rfl
              rotate_left
              · simp only [Act.put, List.setIfInBounds_toArray, List.set_cons_zero, List.set_cons_succ, i64_w, i32_w]
                rfl
              refine pure_ (i := 8) (N := some 26) (v := ?_) (a' := ?_) #[true, false, true, false, true, false, false, false, true, false, false, false, false, false] rfl rfl (any_of HT_.out (by kernel_rfl)) (fun _ _ _ h => h) (Or.inl ⟨by rfl, ?_⟩) ?_ ?_
              rotate_left
              · intro w'
                go_simp
                with_reducible rfl
              rotate_left
              · simp only [Act.put, List.setIfInBounds_toArray, List.set_cons_zero, List.set_cons_succ, i64_w, i32_w]
                rfl
              refine take_ (i := 1) (N := some 19) (v := ?_) (a' := ?_) #[true, true, true, false, true, false, false, false, true, false, false, false, false, false] rfl rfl (take_ofW HT_.out HW_.out (by kernel_rfl)) (fun _ _ _ h => h) (Or.inl ⟨by rfl, ?_⟩) hHeld ?_ ?_
              rotate_left
              · rintro w' ⟨s0, s1, s2, s3, s4, s5⟩
                go_simp
                with_reducible rfl
              rotate_left
              · simp only [Act.put, List.setIfInBounds_toArray, List.set_cons_zero, List.set_cons_succ, i64_w, i32_w]
                rfl
              refine take_ (i := 3) (N := some 21) (v := ?_) (a' := ?_) #[true, true, true, true, true, false, false, false, true, false, false, false, false, false] rfl rfl (take_ofW HT_.out HW_.out (by kernel_rfl)) (fun _ _ _ h => h) (Or.inl ⟨by rfl, ?_⟩) hHeld ?_ ?_
              rotate_left
              · rintro w' ⟨s0, s1, s2, s3, s4, s5⟩
                go_simp
                with_reducible rfl
              rotate_left
              · simp only [Act.put, List.setIfInBounds_toArray, List.set_cons_zero, List.set_cons_succ, i64_w, i32_w]
                rfl
              refine pure_ (i := 5) (N := some 23) (v := ?_) (a' := ?_) #[true, true, true, true, true, true, false, false, true, false, false, false, false, false] rfl rfl (any_of HT_.out (by kernel_rfl)) (fun _ _ _ h => h) (Or.inl ⟨by rfl, ?_⟩) ?_ ?_
              rotate_left
              · intro w'
                go_simp
                with_reducible rfl
              rotate_left
              · simp only [Act.put, List.setIfInBounds_toArray, List.set_cons_zero, List.set_cons_succ, i64_w, i32_w]
                rfl
              refine pure_ (i := 6) (N := some 24) (v := ?_) (a' := ?_) #[true, true, true, true, true, true, true, false, true, false, false, false, false, false] rfl rfl (any_of HT_.out (by kernel_rfl)) (fun _ _ _ h => h) (Or.inl ⟨by rfl, ?_⟩) ?_ ?_
              rotate_left
              · intro w'
                go_simp
                with_reducible rfl
              rotate_left
              · simp only [Act.put, List.setIfInBounds_toArray, List.set_cons_zero, List.set_cons_succ, i64_w, i32_w]
                rfl
              refine take_ (i := 7) (N := some 25) (v := ?_) (a' := ?_) #[true, true, true, true, true, true, true, true, true, false, false, false, false, false] rfl rfl (take_ofW HT_.out HW_.out (by kernel_rfl)) (fun _ _ _ h => h) (Or.inl ⟨by rfl, ?_⟩) hHeld ?_ ?_
              rotate_left
              · rintro w' ⟨s0, s1, s2, s3, s4, s5⟩
                go_simp
                with_reducible rfl
              rotate_left
              · simp only [Act.put, List.setIfInBounds_toArray, List.set_cons_zero, List.set_cons_succ, i64_w, i32_w]
                rfl
              refine pure_ (i := 9) (N := some 27) (v := ?_) (a' := ?_) #[true, true, true, true, true, true, true, true, true, true, false, false, false, false] rfl rfl (any_of HT_.out (by kernel_rfl)) (fun _ _ _ h => h) (Or.inl ⟨by rfl, ?_⟩) ?_ ?_
              rotate_left
              · intro w'
                go_simp
                with_reducible rfl
              rotate_left
              · simp only [Act.put, List.setIfInBounds_toArray, List.set_cons_zero, List.set_cons_succ, i64_w, i32_w]
                rfl
              refine take_ (i := 10) (N := some 28) (v := ?_) (a' := ?_) #[true, true, true, true, true, true, true, true, true, true, true, false, false, false] rfl rfl (take_ofW HT_.out HW_.out (by kernel_rfl)) (fun _ _ _ h => h) (Or.inl ⟨by rfl, ?_⟩) hHeld ?_ ?_
              rotate_left
              · rintro w' ⟨s0, s1, s2, s3, s4, s5⟩
                go_simp
                with_reducible rfl
              rotate_left
              · simp only [Act.put, List.setIfInBounds_toArray, List.set_cons_zero, List.set_cons_succ, i64_w, i32_w]
                rfl
              refine one_ (i := 11) (N := some 29) #[true, true, true, true, true, true, true, true, true, true, true, true, false, false] rfl rfl (one_of HT_.out (by kernel_rfl)) (by decide) (fun K hK => ?_)
              refine goes_ Tryd.func22 (by kernel_rfl) rfl #[.agg #[.slice (some ad232) l0_0.length c0_0], .int .i64 (rd ((rd_T33 l0_0 a1).f3) x6_1)] (by rfl) rfl rfl (by (try simp only [List.map_toArray, List.map_cons, List.map_nil]); first | done | rfl | (simp only [List.length_drop, List.length_take]; rfl)) ?_
              with_reducible refine (ih k1 (by have := HK1.out; omega) _ _ l0_0 (rd ((rd_T33 l0_0 a1).f3) x6_1) t235 _ ?side1 ?side2 A8.out).mono ?_
              (case side1 => repeat (first | exact (Kd.C_below HR0_0.out HB.out) | (with_reducible refine Kd.C_alloc ?_ _) | (with_reducible refine Kd.C_drewN ?_ _) | (with_reducible refine Kd.C_drew ?_)))
              (case side2 => exact HC0_0.out)
              rintro e w12 ⟨rfl, hb⟩
              refine ⟨_, rfl, ?_⟩
              have n0_ := Aside0.mk (blk_below (g := gb231) (o := .cells #[.slice (some ad232) l0_0.length c0_0] 24 (0, 0)) (by (with_reducible repeat (first | refine blk_drewN ?_ _ | refine blk_drew ?_ | refine blk_alloc ?_ _)); exact BK231.out) hb)
              have n1_ := Aside0.mk (below_step (by repeat (first | (with_reducible first | exact HB.out | apply below_alloc | apply pw_below_drewN | apply below_drew1 | refine below_set ?_ GE231.out) | exact HB.out)) hb)
              clear BK231
              clear HB
              have BK231 := n0_
              have HB := n1_
              clear n0_ n1_
              (try clear hb)
              (try clear hb2)
              (try clear hk)
              (try clear hi)
              refine hK.out _ _ ⟨(blk_cell BK231.out 0).trans rfl, ((HB.out.cell (World.block_lt_of_cell? w _ hw233_0)).trans hw233_0), ((HB.out.cell (World.block_lt_of_cell? w _ hw233_1)).trans hw233_1), ((HB.out.cell (World.block_lt_of_cell? w _ hw233_2)).trans hw233_2), ((HB.out.cell (World.block_lt_of_cell? w _ hw233_3)).trans hw233_3), ((HB.out.cell (World.block_lt_of_cell? w _ hw234_0)).trans hw234_0)⟩ (fun hHeld => ?_)
              clear hK K
              refine norm_ (a' := ?_) ?_ ?_
              rotate_left
              · show Act.put _ (some 29) _ = _
                simp only [Act.put, List.setIfInBounds_toArray, List.set_cons_zero, List.set_cons_succ, i64_w, i32_w]
                rfl
              refine pure_ (i := 12) (N := some 30) (v := ?_) (a' := ?_) #[true, true, true, true, true, true, true, true, true, true, true, true, true, false] rfl rfl (any_of HT_.out (by kernel_rfl)) (fun _ _ _ h => h) (Or.inl ⟨by rfl, ?_⟩) ?_ ?_
              rotate_left
              · intro w'
                go_simp
                with_reducible rfl
              rotate_left
              · simp only [Act.put, List.setIfInBounds_toArray, List.set_cons_zero, List.set_cons_succ, i64_w, i32_w]
                rfl
              refine pure_ (i := 13) (N := some 5) (v := ?_) (a' := ?_) #[true, true, true, true, true, true, true, true, true, true, true, true, true, true] rfl rfl (any_of HT_.out (by kernel_rfl)) (fun _ _ _ h => h) (Or.inl ⟨by rfl, ?_⟩) ?_ ?_
              rotate_left
              · intro w'
                go_simp
                with_reducible rfl
              rotate_left
              · simp only [Act.put, List.setIfInBounds_toArray, List.set_cons_zero, List.set_cons_succ, i64_w, i32_w]
                rfl
              refine done_ (done_of HT_.out (by kernel_rfl)) ?_
              try go_wp2
              go_roundg k1
              case measure => have := HK1.out; omega
              case rel => exact ⟨(ji9), (wrap64 (x6_1 + 1)), (by first | rfl | (simp; done) | (simp only [← hji9] <;> (first | rfl | simp)) | (simp [*]; done)), (by first | rfl | (simp; done) | (simp [*]; done)), H', ⟨by have := HK1.out; omega⟩, ⟨by (with_reducible repeat (first | refine blk_drewN ?_ _ | refine blk_drew ?_ | refine blk_alloc ?_ _)); exact BK231.out⟩, ⟨by repeat (first | (with_reducible first | exact HB.out | apply below_alloc | apply pw_below_drewN | apply below_drew1 | refine below_set ?_ GE231.out) | exact HB.out)⟩⟩
            · rw [if_neg c7] at H
              exact absurd H (by simp)
          · rw [if_neg c6] at H
            have c6b0 : decide (x6_1 < (((rd_T33 l0_0 a1).f3).length : Int)) = false := decide_eq_false c6
            clear c6
            obtain rfl := Option.some.inj H
            have hcz13_0 : wr.cell? ⟨gb231, 0, none⟩ = some (.slice A0_0 l0_0.length c0_0) := (blk_cell BK231.out 0).trans rfl
            have hfz13_0 := blk_frozen BK231.out 0
            have p232 : 0 ≤ (a1 : Int) := of_decide_eq_true (by first | (with_reducible assumption) | assumption)
            have q232 : a1 < (l0_0.length : Int) := of_decide_eq_true (by first | (with_reducible assumption) | assumption)
            obtain ⟨ad232, A232_3, c232_3, e232, hx232_0, hx232_1, hx232_2, hx232_3, hl232_3, hi232_3⟩ := at_T33 HR0_0.out a1 p232 q232
            cases e232
            replace hx232_0 := (HB.out.cell (World.block_lt_of_cell? w _ hx232_0)).trans hx232_0
            replace hx232_1 := (HB.out.cell (World.block_lt_of_cell? w _ hx232_1)).trans hx232_1
            replace hx232_2 := (HB.out.cell (World.block_lt_of_cell? w _ hx232_2)).trans hx232_2
            replace hx232_3 := (HB.out.cell (World.block_lt_of_cell? w _ hx232_3)).trans hx232_3
            have HR232_3 := Aside0.mk hi232_3
            have HC232_3 := Aside0.mk hl232_3
            clear hi232_3 hl232_3
            replace p232 := eq_true p232
            replace q232 := eq_true q232
            go_wp2
            go_ret
            exact ⟨by first | rfl | (simp [errW_none, errW_some, erT_no, erV_no, erT_at, erV_at] <;> rfl) | (simp [*, errW_none, errW_some, erT_no, erV_no, erT_at, erV_at] <;> rfl), by repeat (first | (with_reducible first | exact HB.out | apply below_alloc | apply pw_below_drewN | apply below_drew1 | refine below_set ?_ GE231.out) | exact HB.out)⟩
        · rw [if_neg c5] at H
          exact absurd H (by simp)
      · rw [if_neg c4] at H
        exact absurd H (by simp)

/-! ### cavilref13_Parent: function 23 -/
mutual
def cavilref13_Parent.l0 : Nat → Int → Int → List (S33) → Option (Int)
  | 0, _, _, _ => none
  | k + 1, x1, x5, x237000 => if x5 < (x237000.length : Int) then (cavilref13_Parent.l1 k x1 x5 0 x237000) else (some (-1))
def cavilref13_Parent.l1 : Nat → Int → Int → Int → List (S33) → Option (Int)
  | 0, _, _, _, _ => none
  | k + 1, x1, x5, x6, x237000 => if 0 ≤ x5 then (if x5 < (x237000.length : Int) then (if x6 < (((rd_T33 x237000 x5).f3).length : Int) then (if 0 ≤ x6 then (if (rd ((rd_T33 x237000 x5).f3) x6) = x1 then (some x5) else (cavilref13_Parent.l1 k x1 x5 (wrap64 (x6 + 1)) x237000)) else (none)) else (cavilref13_Parent.l0 k x1 (wrap64 (x5 + 1)) x237000)) else (none)) else (none)
end
def cavilref13_Parent.f (k : Nat) (l0_0 : List (S33)) (a1 : Int) : Option (Int) := cavilref13_Parent.l0 k a1 0 l0_0
theorem cavilref13_Parent.mono_l : ∀ k, (∀ y0 y1 y2, LeO (cavilref13_Parent.l0 k y0 y1 y2) (cavilref13_Parent.l0 (k + 1) y0 y1 y2)) ∧ (∀ y0 y1 y2 y3, LeO (cavilref13_Parent.l1 k y0 y1 y2 y3) (cavilref13_Parent.l1 (k + 1) y0 y1 y2 y3))
  | 0 => ⟨fun _ _ _ r h => by simp [cavilref13_Parent.l0] at h, fun _ _ _ _ r h => by simp [cavilref13_Parent.l1] at h⟩
  | k + 1 => by
    obtain ⟨ih0, ih1⟩ := cavilref13_Parent.mono_l k
    refine ⟨?_, ?_⟩
    · intro y0 y1 y2
      unfold cavilref13_Parent.l0
      repeat' first
      | (with_reducible exact ih0 _ _ _)
      | (with_reducible exact ih1 _ _ _ _)
      | (with_reducible exact LeO.refl _)
      | (with_reducible exact LeO.none _)
      | (with_reducible refine LeO.ite ?_ ?_)
      | (with_reducible refine LeO.bind ?_ (fun _ => ?_))
      | exact ih0 _ _ _
      | exact ih1 _ _ _ _
      | exact LeO.none _
      | refine LeO.ite ?_ ?_
      | refine LeO.bind ?_ (fun _ => ?_)
    · intro y0 y1 y2 y3
      unfold cavilref13_Parent.l1
      repeat' first
      | (with_reducible exact ih0 _ _ _)
      | (with_reducible exact ih1 _ _ _ _)
      | (with_reducible exact LeO.refl _)
      | (with_reducible exact LeO.none _)
      | (with_reducible refine LeO.ite ?_ ?_)
      | (with_reducible refine LeO.bind ?_ (fun _ => ?_))
      | exact ih0 _ _ _
      | exact ih1 _ _ _ _
      | exact LeO.none _
      | refine LeO.ite ?_ ?_
      | refine LeO.bind ?_ (fun _ => ?_)
theorem cavilref13_Parent.mono : ∀ a0 a1 k, LeO (cavilref13_Parent.f k a0 a1) (cavilref13_Parent.f (k + 1) a0 a1) := by
  intro a0 a1 k
  obtain ⟨ih0, ih1⟩ := cavilref13_Parent.mono_l k
  unfold cavilref13_Parent.f
  repeat' first
      | (with_reducible exact ih0 _ _ _)
      | (with_reducible exact ih1 _ _ _ _)
      | (with_reducible exact LeO.refl _)
      | (with_reducible exact LeO.none _)
      | (with_reducible refine LeO.ite ?_ ?_)
      | (with_reducible refine LeO.bind ?_ (fun _ => ?_))
      | exact ih0 _ _ _
      | exact ih1 _ _ _ _
      | exact LeO.none _
      | refine LeO.ite ?_ ?_
      | refine LeO.bind ?_ (fun _ => ?_)
set_option maxHeartbeats 8000000 in
set_option maxRecDepth 100000 in
theorem cavilref13_Parent.calls (k : Nat) (A0_0 : Option Addr) (c0_0 : Nat) (l0_0 : List (S33)) (a1 : Int) (r : Int) (w : World) (hr0_0 : Kd.C k33 w A0_0 l0_0.length l0_0) (hc0_0 : l0_0.length ≤ c0_0) (h : cavilref13_Parent.f k l0_0 a1 = some r) :
    Calls Tryd.prog 23 #[.agg #[.slice A0_0 l0_0.length c0_0], .int .i64 a1] w fun e w' => e = .returned (.int .i64 r) ∧ Below w.heap.size w w' := by
  have hu24 := Tryd.underlying24
  have HR0_0 := Aside0.mk hr0_0
  have HC0_0 := Aside0.mk hc0_0
  clear hr0_0 hc0_0
  have HB := Aside0.mk (Below.refl w.heap.size w)
  have H : (cavilref13_Parent.l0 k a1 0 l0_0) = some r := h
  clear h
  have H' := Aside0.mk H
  clear H
  go_enter Tryd.func23, Tryd.ntmps23
  go_wp2_with (first | ((with_reducible refine gate_dst (N := 2) rfl ?_); refine box_event ?hg (N := 2) ?hd (cs := #[.slice A0_0 l0_0.length c0_0]) (t := 24) ?hr ?_; (case hd => rfl); (case hg => rfl); (case hr => first | (go_simp; done) | (go_simp; rfl)); intro gb236 hg w3 hbox hb; have n0_ := Aside0.mk (below_step (by repeat (first | (with_reducible first | exact HB.out | apply below_alloc | apply pw_below_drewN | apply below_drew1) | exact HB.out)) hb); have n1_ := Aside0.mk (hbox); have n2_ := Aside0.mk ((by rw [hg]; exact (below_size (by repeat (first | (with_reducible first | exact HB.out | apply below_alloc | apply pw_below_drewN | apply below_drew1) | exact HB.out))) : w.heap.size ≤ gb236)); have n3_ := Aside0.mk ((by rw [hg]; exact (below_size (by repeat (first | (with_reducible first | exact HB.out | apply below_alloc | apply pw_below_drewN | apply below_drew1) | exact HB.out))) : w.heap.size ≤ gb236)); clear HB; have HB := n0_; have BK236 := n1_; have GW236 := n2_; have GE236 := n3_; clear n0_ n1_ n2_ n3_; clear hb hbox hg))
  go_loopg [5] k (fun kq v5 w' => ∃ (x5_1 : Int), v5 = .int .i64 x5_1 ∧ Aside0 (cavilref13_Parent.l0 kq a1 x5_1 l0_0 = some r) ∧ Aside0 (kq ≤ k) ∧ Aside0 (w'.heap[gb236]? = some (.cells #[(.slice A0_0 l0_0.length c0_0)] 24 (0, 0))) ∧ Aside0 (Below w.heap.size w w'))
  case atStart => exact ⟨(0), (by first | rfl | (simp; done) | (simp [*]; done)), H', ⟨Nat.le_refl _⟩, ⟨by (with_reducible repeat (first | refine blk_drewN ?_ _ | refine blk_drew ?_ | refine blk_alloc ?_ _)); exact BK236.out⟩, ⟨by repeat (first | (with_reducible first | exact HB.out | apply below_alloc | apply pw_below_drewN | apply below_drew1 | refine below_set ?_ GE236.out) | exact HB.out)⟩⟩
  case round =>
    clear H'
    try clear c2
    try clear p2
    obtain ⟨x5_1, rfl, HA, HK1, BK236, HB⟩ := hrel
    cases gk with
    | zero => exact absurd HA.out (by simp [cavilref13_Parent.l0])
    | succ k1 =>
      have H := HA.out
      clear HA
      simp only [cavilref13_Parent.l0] at H
      by_cases c4 : x5_1 < (l0_0.length : Int)
      · rw [if_pos c4] at H
        have c4b0 : decide (x5_1 < (l0_0.length : Int)) = true := decide_eq_true c4
        clear c4
        have H' := Aside0.mk H
        clear H
        have hcz5_0 : wr.cell? ⟨gb236, 0, none⟩ = some (.slice A0_0 l0_0.length c0_0) := (blk_cell BK236.out 0).trans rfl
        have hfz5_0 := blk_frozen BK236.out 0
        go_wp2
        go_loopg [6] k1 (fun kq v6 w' => ∃ (x6_2 : Int), v6 = .int .i64 x6_2 ∧ Aside0 (cavilref13_Parent.l1 kq a1 x5_1 x6_2 l0_0 = some r) ∧ Aside0 (kq ≤ k1) ∧ Aside0 (w'.heap[gb236]? = some (.cells #[(.slice A0_0 l0_0.length c0_0)] 24 (0, 0))) ∧ Aside0 (Below w.heap.size w w'))
        case atStart => exact ⟨(0), (by first | rfl | (simp; done) | (simp [*]; done)), H', ⟨Nat.le_refl _⟩, ⟨by (with_reducible repeat (first | refine blk_drewN ?_ _ | refine blk_drew ?_ | refine blk_alloc ?_ _)); exact BK236.out⟩, ⟨by repeat (first | (with_reducible first | exact HB.out | apply below_alloc | apply pw_below_drewN | apply below_drew1 | refine below_set ?_ GE236.out) | exact HB.out)⟩⟩
        case round =>
          clear H'
          try clear c2
          try clear p2
          try clear c4
          try clear c4b0
          try clear hcz5_0
          try clear hfz5_0
          try clear p2
          obtain ⟨x6_2, rfl, HA, HK2, BK236, HB⟩ := hrel
          cases gk with
          | zero => exact absurd HA.out (by simp [cavilref13_Parent.l1])
          | succ k2 =>
            have H := HA.out
            clear HA
            simp only [cavilref13_Parent.l1] at H
            by_cases c6 : 0 ≤ x5_1
            · rw [if_pos c6] at H
              have c6b0 : decide (0 ≤ x5_1) = true := decide_eq_true c6
              clear c6
              by_cases c7 : x5_1 < (l0_0.length : Int)
              · rw [if_pos c7] at H
                have c7b0 : decide (x5_1 < (l0_0.length : Int)) = true := decide_eq_true c7
                clear c7
                by_cases c8 : x6_2 < (((rd_T33 l0_0 x5_1).f3).length : Int)
                · rw [if_pos c8] at H
                  have c8b0 : decide (x6_2 < (((rd_T33 l0_0 x5_1).f3).length : Int)) = true := decide_eq_true c8
                  clear c8
                  by_cases c9 : 0 ≤ x6_2
                  · rw [if_pos c9] at H
                    have c9b0 : decide (0 ≤ x6_2) = true := decide_eq_true c9
                    clear c9
                    by_cases c10 : (rd ((rd_T33 l0_0 x5_1).f3) x6_2) = a1
                    · rw [if_pos c10] at H
                      have c10b0 : ((rd ((rd_T33 l0_0 x5_1).f3) x6_2) == a1) = true := beq_iff_eq.mpr c10
                      have c10b1 : ((rd ((rd_T33 l0_0 x5_1).f3) x6_2) != a1) = false := bne_eq_false_iff_eq.mpr c10
                      clear c10
                      obtain rfl := Option.some.inj H
                      have hcz11_0 : wr.cell? ⟨gb236, 0, none⟩ = some (.slice A0_0 l0_0.length c0_0) := (blk_cell BK236.out 0).trans rfl
                      have hfz11_0 := blk_frozen BK236.out 0
                      have p237 : 0 ≤ (x5_1 : Int) := of_decide_eq_true (by first | (with_reducible assumption) | assumption)
                      have q237 : x5_1 < (l0_0.length : Int) := of_decide_eq_true (by first | (with_reducible assumption) | assumption)
                      obtain ⟨ad237, A237_3, c237_3, e237, hx237_0, hx237_1, hx237_2, hx237_3, hl237_3, hi237_3⟩ := at_T33 HR0_0.out x5_1 p237 q237
                      cases e237
                      replace hx237_0 := (HB.out.cell (World.block_lt_of_cell? w _ hx237_0)).trans hx237_0
                      replace hx237_1 := (HB.out.cell (World.block_lt_of_cell? w _ hx237_1)).trans hx237_1
                      replace hx237_2 := (HB.out.cell (World.block_lt_of_cell? w _ hx237_2)).trans hx237_2
                      replace hx237_3 := (HB.out.cell (World.block_lt_of_cell? w _ hx237_3)).trans hx237_3
                      have HR237_3 := Aside0.mk hi237_3
                      have HC237_3 := Aside0.mk hl237_3
                      clear hi237_3 hl237_3
                      replace p237 := eq_true p237
                      replace q237 := eq_true q237
                      have p238 : 0 ≤ (x5_1 : Int) := of_decide_eq_true (by first | (with_reducible assumption) | assumption)
                      have q238 : x5_1 < (l0_0.length : Int) := of_decide_eq_true (by first | (with_reducible assumption) | assumption)
                      obtain ⟨ad238, A238_3, c238_3, e238, hx238_0, hx238_1, hx238_2, hx238_3, hl238_3, hi238_3⟩ := at_T33 HR0_0.out x5_1 p238 q238
                      obtain rfl : ad237 = ad238 := (by injection e238)
                      replace hx238_0 := (HB.out.cell (World.block_lt_of_cell? w _ hx238_0)).trans hx238_0
                      replace hx238_1 := (HB.out.cell (World.block_lt_of_cell? w _ hx238_1)).trans hx238_1
                      replace hx238_2 := (HB.out.cell (World.block_lt_of_cell? w _ hx238_2)).trans hx238_2
                      replace hx238_3 := (HB.out.cell (World.block_lt_of_cell? w _ hx238_3)).trans hx238_3
                      have HR238_3 := Aside0.mk hi238_3
                      have HC238_3 := Aside0.mk hl238_3
                      clear hi238_3 hl238_3
                      replace p238 := eq_true p238
                      replace q238 := eq_true q238
                      have ea_ := Option.some.inj (hx237_3.symm.trans hx238_3)
                      injection ea_ with ea_ en_ ec_
                      subst ea_
                      subst ec_
                      clear en_
                      have p239 : 0 ≤ (x6_2 : Int) := of_decide_eq_true (by first | (with_reducible assumption) | assumption)
                      have q239 : x6_2 < (((rd_T33 l0_0 x5_1).f3).length : Int) := of_decide_eq_true (by first | (with_reducible assumption) | assumption)
                      obtain ⟨ad239, e239, hx239_0⟩ := Kd.at_int HR238_3.out x6_2 p239 q239
                      cases e239
                      replace hx239_0 := (HB.out.cell (World.block_lt_of_cell? w _ hx239_0)).trans hx239_0
                      replace p239 := eq_true p239
                      replace q239 := eq_true q239
                      go_wp2
                      go_ret
                      exact ⟨by first | rfl | (simp [errW_none, errW_some, erT_no, erV_no, erT_at, erV_at] <;> rfl) | (simp [*, errW_none, errW_some, erT_no, erV_no, erT_at, erV_at] <;> rfl), by repeat (first | (with_reducible first | exact HB.out | apply below_alloc | apply pw_below_drewN | apply below_drew1 | refine below_set ?_ GE236.out) | exact HB.out)⟩
                    · rw [if_neg c10] at H
                      have c10b0 : ((rd ((rd_T33 l0_0 x5_1).f3) x6_2) == a1) = false := beq_eq_false_iff_ne.mpr c10
                      have c10b1 : ((rd ((rd_T33 l0_0 x5_1).f3) x6_2) != a1) = true := bne_iff_ne.mpr c10
                      have H' := Aside0.mk H
                      clear H
                      have hcz12_0 : wr.cell? ⟨gb236, 0, none⟩ = some (.slice A0_0 l0_0.length c0_0) := (blk_cell BK236.out 0).trans rfl
                      have hfz12_0 := blk_frozen BK236.out 0
                      have p237 : 0 ≤ (x5_1 : Int) := of_decide_eq_true (by first | (with_reducible assumption) | assumption)
                      have q237 : x5_1 < (l0_0.length : Int) := of_decide_eq_true (by first | (with_reducible assumption) | assumption)
                      obtain ⟨ad237, A237_3, c237_3, e237, hx237_0, hx237_1, hx237_2, hx237_3, hl237_3, hi237_3⟩ := at_T33 HR0_0.out x5_1 p237 q237
                      cases e237
                      replace hx237_0 := (HB.out.cell (World.block_lt_of_cell? w _ hx237_0)).trans hx237_0
                      replace hx237_1 := (HB.out.cell (World.block_lt_of_cell? w _ hx237_1)).trans hx237_1
                      replace hx237_2 := (HB.out.cell (World.block_lt_of_cell? w _ hx237_2)).trans hx237_2
                      replace hx237_3 := (HB.out.cell (World.block_lt_of_cell? w _ hx237_3)).trans hx237_3
                      have HR237_3 := Aside0.mk hi237_3
                      have HC237_3 := Aside0.mk hl237_3
                      clear hi237_3 hl237_3
                      replace p237 := eq_true p237
                      replace q237 := eq_true q237
                      have p238 : 0 ≤ (x5_1 : Int) := of_decide_eq_true (by first | (with_reducible assumption) | assumption)
                      have q238 : x5_1 < (l0_0.length : Int) := of_decide_eq_true (by first | (with_reducible assumption) | assumption)
                      obtain ⟨ad238, A238_3, c238_3, e238, hx238_0, hx238_1, hx238_2, hx238_3, hl238_3, hi238_3⟩ := at_T33 HR0_0.out x5_1 p238 q238
                      obtain rfl : ad237 = ad238 := (by injection e238)
                      replace hx238_0 := (HB.out.cell (World.block_lt_of_cell? w _ hx238_0)).trans hx238_0
                      replace hx238_1 := (HB.out.cell (World.block_lt_of_cell? w _ hx238_1)).trans hx238_1
                      replace hx238_2 := (HB.out.cell (World.block_lt_of_cell? w _ hx238_2)).trans hx238_2
                      replace hx238_3 := (HB.out.cell (World.block_lt_of_cell? w _ hx238_3)).trans hx238_3
                      have HR238_3 := Aside0.mk hi238_3
                      have HC238_3 := Aside0.mk hl238_3
                      clear hi238_3 hl238_3
                      replace p238 := eq_true p238
                      replace q238 := eq_true q238
                      have ea_ := Option.some.inj (hx237_3.symm.trans hx238_3)
                      injection ea_ with ea_ en_ ec_
                      subst ea_
                      subst ec_
                      clear en_
                      have p239 : 0 ≤ (x6_2 : Int) := of_decide_eq_true (by first | (with_reducible assumption) | assumption)
                      have q239 : x6_2 < (((rd_T33 l0_0 x5_1).f3).length : Int) := of_decide_eq_true (by first | (with_reducible assumption) | assumption)
                      obtain ⟨ad239, e239, hx239_0⟩ := Kd.at_int HR238_3.out x6_2 p239 q239
                      cases e239
                      replace hx239_0 := (HB.out.cell (World.block_lt_of_cell? w _ hx239_0)).trans hx239_0
                      replace p239 := eq_true p239
                      replace q239 := eq_true q239
                      go_wp2
                      go_roundg k2
                      case measure => have := HK1.out; have := HK2.out; omega
                      case rel => exact ⟨(wrap64 (x6_2 + 1)), (by first | rfl | (simp; done) | (simp [*]; done)), H', ⟨by have := HK1.out; have := HK2.out; omega⟩, ⟨by (with_reducible repeat (first | refine blk_drewN ?_ _ | refine blk_drew ?_ | refine blk_alloc ?_ _)); exact BK236.out⟩, ⟨by repeat (first | (with_reducible first | exact HB.out | apply below_alloc | apply pw_below_drewN | apply below_drew1 | refine below_set ?_ GE236.out) | exact HB.out)⟩⟩
                  · rw [if_neg c9] at H
                    exact absurd H (by simp)
                · rw [if_neg c8] at H
                  have c8b0 : decide (x6_2 < (((rd_T33 l0_0 x5_1).f3).length : Int)) = false := decide_eq_false c8
                  clear c8
                  have H' := Aside0.mk H
                  clear H
                  have hcz13_0 : wr.cell? ⟨gb236, 0, none⟩ = some (.slice A0_0 l0_0.length c0_0) := (blk_cell BK236.out 0).trans rfl
                  have hfz13_0 := blk_frozen BK236.out 0
                  have p237 : 0 ≤ (x5_1 : Int) := of_decide_eq_true (by first | (with_reducible assumption) | assumption)
                  have q237 : x5_1 < (l0_0.length : Int) := of_decide_eq_true (by first | (with_reducible assumption) | assumption)
                  obtain ⟨ad237, A237_3, c237_3, e237, hx237_0, hx237_1, hx237_2, hx237_3, hl237_3, hi237_3⟩ := at_T33 HR0_0.out x5_1 p237 q237
                  cases e237
                  replace hx237_0 := (HB.out.cell (World.block_lt_of_cell? w _ hx237_0)).trans hx237_0
                  replace hx237_1 := (HB.out.cell (World.block_lt_of_cell? w _ hx237_1)).trans hx237_1
                  replace hx237_2 := (HB.out.cell (World.block_lt_of_cell? w _ hx237_2)).trans hx237_2
                  replace hx237_3 := (HB.out.cell (World.block_lt_of_cell? w _ hx237_3)).trans hx237_3
                  have HR237_3 := Aside0.mk hi237_3
                  have HC237_3 := Aside0.mk hl237_3
                  clear hi237_3 hl237_3
                  replace p237 := eq_true p237
                  replace q237 := eq_true q237
                  go_wp2
                  go_roundg k2
                  case measure => have := HK1.out; have := HK2.out; omega
                  case rel => exact ⟨(wrap64 (x5_1 + 1)), (by first | rfl | (simp; done) | (simp [*]; done)), H', ⟨by have := HK1.out; have := HK2.out; omega⟩, ⟨by (with_reducible repeat (first | refine blk_drewN ?_ _ | refine blk_drew ?_ | refine blk_alloc ?_ _)); exact BK236.out⟩, ⟨by repeat (first | (with_reducible first | exact HB.out | apply below_alloc | apply pw_below_drewN | apply below_drew1 | refine below_set ?_ GE236.out) | exact HB.out)⟩⟩
              · rw [if_neg c7] at H
                exact absurd H (by simp)
            · rw [if_neg c6] at H
              exact absurd H (by simp)
      · rw [if_neg c4] at H
        have c4b0 : decide (x5_1 < (l0_0.length : Int)) = false := decide_eq_false c4
        clear c4
        obtain rfl := Option.some.inj H
        have hcz14_0 : wr.cell? ⟨gb236, 0, none⟩ = some (.slice A0_0 l0_0.length c0_0) := (blk_cell BK236.out 0).trans rfl
        have hfz14_0 := blk_frozen BK236.out 0
        go_wp2
        go_ret
        exact ⟨by first | rfl | (simp [errW_none, errW_some, erT_no, erV_no, erT_at, erV_at] <;> rfl) | (simp [*, errW_none, errW_some, erT_no, erV_no, erT_at, erV_at] <;> rfl), by repeat (first | (with_reducible first | exact HB.out | apply below_alloc | apply pw_below_drewN | apply below_drew1 | refine below_set ?_ GE236.out) | exact HB.out)⟩

end Go.Proofs.YtnpgadfoohjlnaaDoor.QT
