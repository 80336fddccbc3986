/- Where a Lean function of this text answers, the Go function of its name comes to that answer: no other condition. Written by a program of this session out of the translation; Lean checks it. -/
import Derived.Test.YtnpgadfoohjlnabDoorQX0
import Derived.Test.YtnpgadfoohjlnabDoorQX2
import Derived.Test.YtnpgadfoohjlnabDoorQX3
namespace Go.Proofs.YtnpgadfoohjlnabDoor.QX
open Go.RowKit Go.Proofs.YtnpgadfoohjlnabDoorW.PrintWords Go.Proofs.YtnpgadfoohjlnabDoorW.PrintLast Go.Proofs.YtnpgadfoohjlnabDoorW.PrintMore Go.Proofs.YtnpgadfoohjlnabDoorW.PrintX
attribute [local go_sem] max2_int min2_int max_two min_two max_three min_three max_four min_four   -- for this text's walks alone
set_option linter.unusedVariables false
set_option linter.unusedSimpArgs false

/-! ### tree_Owners: function 12 -/
/-- What the closures of Owners carry on: each token's node so far, in a row of numbers. -/
def tree_Owners.J (gi gx gr gt n : Nat) (vi vt : Value) (s : List Int) (W : World) : Prop :=
  W.heap[gi]? = some (.cells #[vi] 3 (0, 0)) ∧ W.heap[gx]? = some (.cells #[.slice (some ⟨gr, 0, none⟩) n n] 28 (0, 0)) ∧ W.heap[gr]? = some (.cells (s.map (Value.int .i64)).toArray 3 (0, 0)) ∧ s.length = n ∧ W.heap[gt]? = some (.cells #[vt] 24 (0, 0))
def tree_Owners.tok (q : Int) (s : List Int) (i : Int) : Option (List Int) := if 0 ≤ i ∧ i < s.length then some (s.set i.toNat q) else none
def tree_Owners.kid (s : List Int) (_ : Int) : Option (List Int) := some s
theorem tree_Owners.below {gi gx gr gt n : Nat} {vi vt : Value} {s : List Int} {W W' : World} (h : tree_Owners.J gi gx gr gt n vi vt s W) (hb : Below W.heap.size W W') : tree_Owners.J gi gx gr gt n vi vt s W' := by
  obtain ⟨h1, h2, h3, h4, h5⟩ := h
  exact ⟨blk_below h1 hb, blk_below h2 hb, blk_below h3 hb, h4, blk_below h5 hb⟩
theorem tree_Owners.set {gi gx gr gt n : Nat} {vi vt : Value} {N : Nat → Prop} {s : List Int} {W : World} (hN : ¬ N gi ∧ ¬ N gx ∧ ¬ N gr ∧ ¬ N gt) (k j : Nat) (u : Value) (hk : N k) (h : tree_Owners.J gi gx gr gt n vi vt s W) : tree_Owners.J gi gx gr gt n vi vt s (W.setCell ⟨k, j, none⟩ u) := by
  obtain ⟨h1, h2, h3, h4, h5⟩ := h
  have far : ∀ q, ¬ N q → (W.setCell ⟨k, j, none⟩ u).heap[q]? = W.heap[q]? := fun q hq => Below.heap_setCell W ⟨k, j, none⟩ u q (fun e => by subst e; exact hq hk)
  exact ⟨(far gi hN.1).trans h1, (far gx hN.2.1).trans h2, (far gr hN.2.2.1).trans h3, h4, (far gt hN.2.2.2).trans h5⟩
set_option maxHeartbeats 4000000 in
set_option maxRecDepth 100000 in
theorem tree_Owners.tok_step {B gi gx gr gt n : Nat} {q : Int} {vt : Value} {N : Nat → Prop} {w0 : World} (hr0 : B ≤ gr) (hN : ¬ N gi ∧ ¬ N gx ∧ ¬ N gr ∧ ¬ N gt) (hne : gi ≠ gr ∧ gx ≠ gr ∧ gt ≠ gr) : tree_parts.Step (tree_Owners.J gi gx gr gt n (.int .i64 q) vt) (tree_Owners.tok q) B N 42 #[.pointer (some ⟨gi, 0, none⟩), .pointer (some ⟨gx, 0, none⟩)] w0 := by
  refine ⟨fun args w => enters_ Tryd.func42 rfl rfl args w, fun s i s' W hz hs hJ hw => ?_⟩
  obtain ⟨h1, h2, h3, h4, h5⟩ := hJ
  unfold tree_Owners.tok at hs
  split at hs
  case isFalse => cases hs
  rename_i hl
  cases hs
  obtain ⟨m, rfl⟩ := Int.eq_ofNat_of_zero_le hl.1
  rw [Int.toNat_natCast]
  have hm : m < s.length := by omega
  have c1 : (m : Int) < (n : Int) := by omega
  have q1 := blk_cell h1 0
  have q2 := blk_cell h2 0
  have q3 : W.cell? ⟨gr, m, none⟩ = some (.int .i64 s[m]) := by
    rw [blk_cell h3 m]
    simp [hm]
  have z3 := blk_frozen h3 m
  simp only [List.getElem?_toArray, List.getElem?_cons_zero] at q1 q2
  have HW := Aside0.mk hw
  have H1 := Aside0.mk h1
  have H2 := Aside0.mk h2
  have H3 := Aside0.mk h3
  have H4 := Aside0.mk h4
  have H5 := Aside0.mk h5
  clear hl h1 h2 h3 h4 h5 hz hw
  show Calls Tryd.prog 42 #[.int .i64 (m : Int), .pointer (some ⟨gi, 0, none⟩), .pointer (some ⟨gx, 0, none⟩)] W _
  go_enter Tryd.func42, Tryd.ntmps42
  go_wp2
  refine bodyPost_end (results_none rfl _ _ _) rfl ?_
  have hgN : ∀ k, N k → k ≠ gr := fun k hk e => by subst e; exact hN.2.2.1 hk
  have far : ∀ p, p ≠ gr → (W.setCell ⟨gr, m, none⟩ (.int .i64 q)).heap[p]? = W.heap[p]? := fun p hp => Below.heap_setCell W ⟨gr, m, none⟩ _ p hp
  refine ⟨rfl, ⟨(far gi hne.1).trans H1.out, (far gx hne.2.1).trans H2.out, blk_put H3.out m _ (by simp [List.map_set]), by rw [List.length_set]; exact H4.out, (far gt hne.2.2).trans H5.out⟩, HW.out.setCell (p := ⟨gr, m, none⟩) hr0 _, fun k hk => far k (hgN k hk)⟩
set_option maxHeartbeats 4000000 in
theorem tree_Owners.kid_step {J : List Int → World → Prop} {B : Nat} {N : Nat → Prop} {w0 : World} : tree_parts.Step J tree_Owners.kid B N 41 #[] w0 := by
  refine ⟨fun args w => enters_ Tryd.func41 rfl rfl args w, fun s i s' W hz hs hJ hw => ?_⟩
  cases hs
  have HJ := Aside0.mk hJ
  have HW := Aside0.mk hw
  clear hJ hw
  show Calls Tryd.prog 41 #[.int .i64 i] W _
  go_enter Tryd.func41, Tryd.ntmps41
  go_wp2
  refine bodyPost_end (results_none rfl _ _ _) rfl ?_
  exact ⟨rfl, HJ.out, HW.out, fun _ _ => rfl⟩
theorem tree_Owners.info3 : (Tryd.prog.info? 3).map (fun i => (i.zero, i.size, i.bytes)) = some (some (.int .i64 0), 1, 8) := by kernel_rfl
theorem tree_Owners.made (n : Nat) : madeCells (Value.int .i64 0).cells n = ((List.replicate n (0 : Int)).map (Value.int .i64)).toArray := by
  apply Array.ext
  · simp [madeCells]
  · intro i h1 h2
    simp [madeCells, Value.cells, Nat.mod_one]
theorem tree_Owners.make_event {ops : Array Oper} {rest : List Oper} {o : Oper} {a : Act} {Q : Exit → Act → World → Prop} {W : World} (hgd : o.guard = none) (x y : Operand) (ho : o.op = .makeSlice 28 x y) (n : Nat) (hx : a.eval x = .int .i64 (n : Int)) (hy : a.eval y = .int .i64 (n : Int)) (hl : n * 8 ≤ 281474976710656)
    (h : ∀ g, g = W.heap.size → ∀ w1, w1.heap[g]? = some (.cells ((List.replicate n (0 : Int)).map (Value.int .i64)).toArray 3 (0, 0)) → Below W.heap.size W w1 → wpList Tryd.prog ops Q rest (a.put o.dst (.slice (some ⟨g, 0, none⟩) n n)) w1) : wpList Tryd.prog ops Q (o :: rest) a W := by
  obtain ⟨i0, hi, hzz⟩ := Option.map_eq_some_iff.1 tree_Owners.info3
  simp only [Prod.mk.injEq] at hzz
  obtain ⟨hz0, hz1, hz2⟩ := hzz
  have hr := run_make (P := Tryd.prog) W 28 3 i0 (.int .i64 0) Tryd.underlying28 hi hz0 .i64 .i64 (n : Int) (n : Int) (by omega) (by omega)
    (by
      have h3 : ((i0.bytes * n : Nat) : Int) ≤ 281474976710656 := by rw [hz2, Nat.mul_comm]; omega
      rwa [Int.natCast_mul] at h3) (by omega)
  simp only [Int.toNat_natCast] at hr
  rw [hz1, Nat.mul_one, tree_Owners.made] at hr
  refine Kd.event_run hgd (v := .slice (some ⟨W.heap.size, 0, none⟩) n n) (w1 := W.alloc (.cells ((List.replicate n (0 : Int)).map (Value.int .i64)).toArray 3)) ?_ (h _ rfl _ (blk_new W _) (below_alloc (Below.refl _ _) _))
  simp [execOp, ho, hx, hy, hr]
/-- One node after the other. -/
def tree_Owners.go (l : List S34) : Nat → Nat → List Int → Option (List Int)
  | 0, _, s => some s
  | d + 1, i, s => (tree_parts.run (tree_Owners.tok (i : Int)) tree_Owners.kid l (rd_T34 l (i : Int)).f3 (rd_T34 l (i : Int)).f1 (rd_T34 l (i : Int)).f2 s).bind fun t => tree_Owners.go l d (i + 1) t
def tree_Owners.f (k : Nat) (l0_0 : List (S34)) : Option (List Int × Option Er) := (tree_sound.f k l0_0).bind fun t => if t.isNone = true then (if 0 < l0_0.length ∧ l0_0.length ≤ 17592186044416 ∧ 0 ≤ (rd_T34 l0_0 ((l0_0.length - 1 : Nat) : Int)).f2 ∧ (rd_T34 l0_0 ((l0_0.length - 1 : Nat) : Int)).f2 ≤ 17592186044416 then (tree_Owners.go l0_0 l0_0.length 0 (List.replicate (rd_T34 l0_0 ((l0_0.length - 1 : Nat) : Int)).f2.toNat (-1))).bind fun r => some (r, none) else none) else some (([] : List Int), some (t.getD (Er.no 0)))
theorem tree_Owners.mono : ∀ a0 k, LeO (tree_Owners.f k a0) (tree_Owners.f (k + 1) a0) := by
  intro a0 k
  unfold tree_Owners.f
  exact LeO.bind (tree_sound.mono a0 k) (fun _ => LeO.refl _)
set_option maxHeartbeats 16000000 in
set_option maxRecDepth 100000 in
theorem tree_Owners.calls (k : Nat) (A0_0 : Option Addr) (c0_0 : Nat) (l0_0 : List (S34)) (r1 : List Int) (r2 : Option Er) (w : World) (hr0_0 : Kd.C k34 w A0_0 l0_0.length l0_0) (hc0_0 : l0_0.length ≤ c0_0) (h : tree_Owners.f k l0_0 = some (r1, r2)) :
    Calls Tryd.prog 12 #[.agg #[.slice A0_0 l0_0.length c0_0]] w fun e w' => ∃ v0_ : Value, e = .returned (.tuple #[v0_, errW r2]) ∧ Kd.R (Kd.int .i64) 3 w' w.heap.size (fun _ => True) v0_ r1 ∧ Below w.heap.size w w' := by
  obtain ⟨t, hs, h⟩ := Option.bind_eq_some_iff.mp h
  have AS := Aside0.mk hs
  have HR := Aside0.mk hr0_0
  have HC := Aside0.mk hc0_0
  clear hs hr0_0 hc0_0
  have hue := Tryd.underlying30
  have hun := Tryd.underlying34
  have hut := Tryd.underlying24
  rcases t with _ | q
  · rw [if_pos (show (none : Option Er).isNone = true by rfl)] at h
    split at h
    case isFalse => cases h
    rename_i hl
    obtain ⟨rr, ht, h⟩ := Option.bind_eq_some_iff.mp h
    cases h
    obtain ⟨n1, hn1⟩ : ∃ n1, l0_0.length = n1 + 1 := ⟨l0_0.length - 1, by omega⟩
    have hn0 : ((l0_0.length - 1 : Nat) : Int) = (n1 : Int) := by omega
    rw [hn0] at hl ht
    obtain ⟨m, hm⟩ : ∃ m : Nat, (rd_T34 l0_0 (n1 : Int)).f2 = (m : Int) := Int.eq_ofNat_of_zero_le hl.2.2.1
    rw [hm, Int.toNat_natCast] at ht
    have hml : m ≤ 17592186044416 := by have := hl.2.2.2; omega
    have hll : l0_0.length ≤ 17592186044416 := hl.2.1
    have ew : wrap64 ((l0_0.length : Int) - 1) = (n1 : Int) := by unfold wrap64; omega
    have d1 : (n1 : Int) < (l0_0.length : Int) := by omega
    obtain ⟨ad, A3, c3, eA, x0, x1, x2, x3, _, hk3⟩ := at_T34 HR.out (n1 : Int) (by omega) d1
    subst eA
    rw [hm] at x2
    rw [Int.toNat_natCast] at x0 x1 x2 x3
    have HT := Aside0.mk ht
    have HL := Aside0.mk hll
    have HM := Aside0.mk hml
    have HN := Aside0.mk hn1
    have HX0 := Aside0.mk x0
    have HX1 := Aside0.mk x1
    have HX2 := Aside0.mk x2
    have HX3 := Aside0.mk x3
    clear ht hl hk3 hll hml hn1 hn0 x0 x1 x2 x3 hm
    go_enter Tryd.func12, Tryd.ntmps12
    go_wp2_with (first
      | ((with_reducible refine gate_dst (N := 1) rfl ?_); refine box_event ?hg (N := 1) ?hd (cs := #[.slice (some ad) l0_0.length c0_0]) (t := 24) ?hr ?_; (case hd => rfl); (case hg => rfl); (case hr => first | (go_simp; done) | (go_simp; rfl)); intro gt egt w2 hxt hbt; have BT := Aside0.mk hbt; have XT := Aside0.mk hxt; have GT := Aside0.mk egt; have qt := blk_cell hxt 0; simp only [List.getElem?_toArray, List.getElem?_cons_zero, List.getElem?_cons_succ] at qt; clear hbt hxt egt)
      | (go_at_call 39; (refine (tree_sound.calls k _ _ l0_0 none _ (Kd.C_below HR.out BT.out) HC.out AS.out).mono ?_); rintro e w3 ⟨rfl, hb3⟩; have B3 := Aside0.mk hb3; have b3 := BT.out.trans (hb3.mono BT.out.size); have q3 := blk_cell (blk_below XT.out hb3) 0; simp only [List.getElem?_toArray, List.getElem?_cons_zero, List.getElem?_cons_succ] at q3; have n0 := (b3.cell (World.block_lt_of_cell? w _ HX0.out)).trans HX0.out; have n1' := (b3.cell (World.block_lt_of_cell? w _ HX1.out)).trans HX1.out; have n2 := (b3.cell (World.block_lt_of_cell? w _ HX2.out)).trans HX2.out; have n3 := (b3.cell (World.block_lt_of_cell? w _ HX3.out)).trans HX3.out; have BB3 := Aside0.mk b3; clear hb3 b3; try simp only [errW_none])
      | ((with_reducible refine gate_dst (N := 5) rfl ?_); refine box_event ?hg (N := 5) ?hd (cs := #[.int .i64 0, .int .i64 0, .int .i64 0, .slice none 0 0]) (t := 34) ?hr ?_; (case hd => rfl); (case hg => rfl); (case hr => first | (go_simp; done) | (go_simp; rfl)); intro gn egn w7 hxn hbn; have EN := Aside0.mk egn; have BN := Aside0.mk hbn; have XN := Aside0.mk hxn; have qn0 := blk_cell hxn 0; have qn1 := blk_cell hxn 1; have qn2 := blk_cell hxn 2; have qn3 := blk_cell hxn 3; have zn0 := blk_frozen hxn 0; have zn1 := blk_frozen hxn 1; have zn2 := blk_frozen hxn 2; have zn3 := blk_frozen hxn 3; simp only [List.getElem?_toArray, List.getElem?_cons_zero, List.getElem?_cons_succ] at qn0 qn1 qn2 qn3; clear hxn hbn egn)
      | ((with_reducible refine gate_dst (N := 25) rfl ?_); refine Hid.out ?_))
    refine Lib.hid ?_
    refine tree_Owners.make_event rfl (.tmp 24) (.tmp 24) rfl m rfl rfl (by have := HM.out; omega) ?_
    intro gr egr w8 hxr hbr
    have egn := EN.out
    have eqs : ((((w7.setCell ⟨gn, 0, none⟩ (.int .i64 (rd_T34 l0_0 (n1 : Int)).f0)).setCell ⟨gn, 1, none⟩ (.int .i64 (rd_T34 l0_0 (n1 : Int)).f1)).setCell ⟨gn, 2, none⟩ (.int .i64 (m : Int))).setCell ⟨gn, 3, none⟩ (.slice A3 (rd_T34 l0_0 (n1 : Int)).f3.length c3)).heap.size = w7.heap.size := by simp [World.setCell]
    rw [eqs] at egr
    have s7 := BN.out.size
    have b3s := BB3.out.size
    have ln := blk_lt XN.out
    have hk8 : ∀ k, k < w3.heap.size → w8.heap[k]? = w3.heap[k]? := fun k hk => (hbr.block k (by rw [eqs]; omega)).trans ((Below.heap_setCell _ ⟨gn, 3, none⟩ _ k (by show k ≠ gn; omega)).trans ((Below.heap_setCell _ ⟨gn, 2, none⟩ _ k (by show k ≠ gn; omega)).trans ((Below.heap_setCell _ ⟨gn, 1, none⟩ _ k (by show k ≠ gn; omega)).trans ((Below.heap_setCell _ ⟨gn, 0, none⟩ _ k (by show k ≠ gn; omega)).trans (BN.out.block k hk)))))
    have b7 := BB3.out.trans (BN.out.mono b3s)
    have b8 := ((((b7.setCell (p := ⟨gn, 0, none⟩) (by show _ ≤ gn; omega) (.int .i64 (rd_T34 l0_0 (n1 : Int)).f0)).setCell (p := ⟨gn, 1, none⟩) (by show _ ≤ gn; omega) (.int .i64 (rd_T34 l0_0 (n1 : Int)).f1)).setCell (p := ⟨gn, 2, none⟩) (by show _ ≤ gn; omega) (.int .i64 (m : Int))).setCell (p := ⟨gn, 3, none⟩) (by show _ ≤ gn; omega) (.slice A3 (rd_T34 l0_0 (n1 : Int)).f3.length c3)).trans (hbr.mono (by rw [eqs]; omega))
    have hgt3 := blk_below XT.out B3.out
    have lt3 := blk_lt hgt3
    have hgt8 := (hk8 gt lt3).trans hgt3
    have sbt := BT.out.size
    have egt := GT.out
    have XT8 := Aside0.mk hgt8
    have XR := Aside0.mk hxr
    have B8 := Aside0.mk b8
    have ND8 := Aside0.mk (⟨by omega, by omega, by omega⟩ : gt ≠ gr ∧ w.heap.size ≤ gr ∧ w.heap.size ≤ gt)
    have LR := Aside0.mk (blk_lt hxr)
    have LT := Aside0.mk (blk_lt hgt8)
    clear egn eqs egr s7 b3s ln hk8 b7 b8 hgt3 lt3 hgt8 hxr hbr sbt egt EN BN XN BB3 B3 BT XT GT qn0 qn1 qn2 qn3 zn0 zn1 zn2 zn3 q3 qt n0 n1' n2 n3
    go_wp2_with (first
      | ((with_reducible refine gate_dst (N := 6) rfl ?_); refine box_event ?hg (N := 6) ?hd (cs := #[.slice none 0 0]) (t := 28) ?hr ?_; (case hd => rfl); (case hg => rfl); (case hr => first | (go_simp; done) | (go_simp; rfl)); intro gx egx w9 hxx hbx; have BX := Aside0.mk hbx; have XX := Aside0.mk hxx; have GX := Aside0.mk egx; have qx := blk_cell hxx 0; have qxz := blk_frozen hxx 0; simp only [List.getElem?_toArray, List.getElem?_cons_zero, List.getElem?_cons_succ] at qx; clear hbx hxx egx))
    have b9 := B8.out.trans (BX.out.mono B8.out.size)
    have egx := GX.out
    have lr := LR.out
    have lt := LT.out
    have nd := ND8.out
    have s8 := B8.out.size
    have ND := Aside0.mk (⟨nd.1, by omega, by omega⟩ : gt ≠ gr ∧ gt ≠ gx ∧ gx ≠ gr)
    have HS := Aside0.mk (⟨nd.2.2, nd.2.1, by omega⟩ : w.heap.size ≤ gt ∧ w.heap.size ≤ gr ∧ w.heap.size ≤ gx)
    have HR9 := Aside0.mk (blk_below XR.out BX.out)
    have HT9 := Aside0.mk (blk_below XT8.out BX.out)
    have HB9 := Aside0.mk b9
    clear b9 egx lr lt nd s8 GX LR LT ND8 B8 XR XT8 BX
    go_loopg [28] m (fun kq v28 w' => ∃ (i : Nat), v28 = .int .i64 (i : Int) ∧ Aside0 (i + kq = m) ∧ Aside0 (w'.heap[gx]? = some (.cells #[.slice (some ⟨gr, 0, none⟩) m m] 28 (0, 0))) ∧ Aside0 (w'.heap[gr]? = some (.cells ((List.replicate i (-1 : Int) ++ List.replicate kq 0).map (Value.int .i64)).toArray 3 (0, 0))) ∧ Aside0 (w'.heap[gt]? = some (.cells #[.slice (some ad) l0_0.length c0_0] 24 (0, 0))) ∧ Aside0 (Below w.heap.size w w'))
    case atStart => exact ⟨0, rfl, ⟨by omega⟩, ⟨blk_put XX.out 0 _ rfl⟩, ⟨blk_far HR9.out (p := ⟨gx, 0, none⟩) ND.out.2.2.symm _⟩, ⟨blk_far HT9.out (p := ⟨gx, 0, none⟩) ND.out.2.1 _⟩, ⟨HB9.out.setCell (p := ⟨gx, 0, none⟩) HS.out.2.2 _⟩⟩
    case round =>
      clear HB9 HR9 HT9 XX qx qxz
      obtain ⟨i, rfl, HI, HX, HRW, HGT, HB⟩ := hrel
      have qx0 := blk_cell HX.out 0
      have qt0 := blk_cell HGT.out 0
      simp only [List.getElem?_toArray, List.getElem?_cons_zero, List.getElem?_cons_succ] at qx0 qt0
      by_cases c0 : i < m
      · have c1 : (i : Int) < (m : Int) := by omega
        have c2 : decide ((i : Int) < (m : Int)) = true := decide_eq_true c1
        obtain ⟨k1, hk1⟩ : ∃ k1, gk = k1 + 1 := ⟨gk - 1, by have := HI.out; omega⟩
        subst hk1
        have q3 : wr.cell? ⟨gr, i, none⟩ = some (.int .i64 0) := by
          rw [blk_cell HRW.out i]
          simp [List.replicate_succ]
        have z3 := blk_frozen HRW.out i
        have ew' : wrap64 ((i : Int) + 1) = ((i + 1 : Nat) : Int) := by have := HM.out; unfold wrap64; omega
        go_wp2
        go_roundg k1
        case measure => omega
        case rel =>
          refine ⟨i + 1, by rw [ew'], ⟨by have := HI.out; omega⟩, ⟨blk_far HX.out (p := ⟨gr, i, none⟩) ND.out.2.2 _⟩, ⟨blk_put HRW.out i _ ?_⟩, ⟨blk_far HGT.out (p := ⟨gr, i, none⟩) ND.out.1 _⟩, ⟨HB.out.setCell (p := ⟨gr, i, none⟩) HS.out.2.1 _⟩⟩
          have e : List.replicate (i + 1) (-1 : Int) ++ List.replicate k1 0 = (List.replicate i (-1 : Int) ++ List.replicate (k1 + 1) 0).set i (-1) := by
            rw [List.set_append_right _ _ (by simp), List.length_replicate, Nat.sub_self, List.replicate_succ (n := k1), List.set_cons_zero, List.replicate_succ', List.append_assoc]
            rfl
          rw [e]
          simp [List.map_set]
      · have c1 : ¬ (i : Int) < (m : Int) := by omega
        have c2 : decide ((i : Int) < (m : Int)) = false := decide_eq_false c1
        have hg0 : gk = 0 := by have := HI.out; omega
        subst hg0
        have him : i = m := by have := HI.out; omega
        subst him
        have HRW2 := HRW.out
        rw [List.replicate_zero, List.append_nil] at HRW2
        have HR2 := Aside0.mk HRW2
        clear HRW2 HRW HI c0 c1
        go_wp2
        go_loopg [38] l0_0.length (fun kq v38 w' => ∃ (j : Nat) (s : List Int), v38 = .int .i64 (j : Int) ∧ Aside0 (j + kq = l0_0.length) ∧ Aside0 (tree_Owners.go l0_0 kq j s = some r1) ∧ Aside0 (w'.heap[gx]? = some (.cells #[.slice (some ⟨gr, 0, none⟩) i i] 28 (0, 0))) ∧ Aside0 (w'.heap[gr]? = some (.cells (s.map (Value.int .i64)).toArray 3 (0, 0))) ∧ Aside0 (s.length = i) ∧ Aside0 (w'.heap[gt]? = some (.cells #[.slice (some ad) l0_0.length c0_0] 24 (0, 0))) ∧ Aside0 (Below w.heap.size w w'))
        case atStart => exact ⟨0, List.replicate i (-1), rfl, ⟨by omega⟩, HT, HX, HR2, ⟨List.length_replicate⟩, HGT, HB⟩
        case round =>
          clear HT HX HR2 HGT HB qx0 qt0
          obtain ⟨j, s, rfl, HJ, HU, HX, HRW, HLEN, HGT, HB⟩ := hrel
          have qx0 := blk_cell HX.out 0
          have qt0 := blk_cell HGT.out 0
          simp only [List.getElem?_toArray, List.getElem?_cons_zero, List.getElem?_cons_succ] at qx0 qt0
          by_cases c3 : j < l0_0.length
          · have c4 : (j : Int) < (l0_0.length : Int) := by omega
            have c5 : decide ((j : Int) < (l0_0.length : Int)) = true := decide_eq_true c4
            obtain ⟨k1, hk1⟩ : ∃ k1, gk = k1 + 1 := ⟨gk - 1, by have := HJ.out; omega⟩
            subst hk1
            have hu := HU.out
            simp only [tree_Owners.go] at hu
            obtain ⟨s2, hrun, hu2⟩ := Option.bind_eq_some_iff.mp hu
            have U2 := Aside0.mk hu2
            have RUN := Aside0.mk hrun
            clear hu hu2 hrun HU
            obtain ⟨ad2, A4, c4', eA, x0, x1, x2, x3, _, hk3⟩ := at_T34 HR.out (j : Int) (by omega) c4
            obtain rfl := Option.some.inj eA
            have K3 := Aside0.mk hk3
            have n0 := (HB.out.cell (World.block_lt_of_cell? w _ x0)).trans x0
            have n1' := (HB.out.cell (World.block_lt_of_cell? w _ x1)).trans x1
            have n2 := (HB.out.cell (World.block_lt_of_cell? w _ x2)).trans x2
            have n3 := (HB.out.cell (World.block_lt_of_cell? w _ x3)).trans x3
            rw [Int.toNat_natCast] at n0 n1' n2 n3
            clear hk3 x0 x1 x2 x3 eA
            go_wp2_with (first
              | ((with_reducible refine gate_dst (N := 8) rfl ?_); refine box_event ?hg (N := 8) ?hd (cs := #[.int .i64 0]) (t := 3) ?hr ?_; (case hd => rfl); (case hg => rfl); (case hr => first | (go_simp; done) | (go_simp; rfl)); intro gi egi w10 hxi hbi; have EI := Aside0.mk egi; have BI := Aside0.mk hbi; have XI := Aside0.mk hxi; have qi := blk_cell hxi 0; have zi := blk_frozen hxi 0; simp only [List.getElem?_toArray, List.getElem?_cons_zero, List.getElem?_cons_succ] at qi; clear hxi hbi egi)
              | ((with_reducible refine gate_dst (N := 9) rfl ?_); refine box_event ?hg (N := 9) ?hd (cs := #[.int .i64 0, .int .i64 0, .int .i64 0, .slice none 0 0]) (t := 34) ?hr ?_; (case hd => rfl); (case hg => rfl); (case hr => first | (go_simp; done) | (go_simp; rfl)); intro gn egn w11 hxn hbn; have EN := Aside0.mk egn; have BN := Aside0.mk hbn; have XN := Aside0.mk hxn; have hxi11 := blk_below XI.out hbn; have XI11 := Aside0.mk hxi11; have qi11 := blk_cell hxi11 0; have zi11 := blk_frozen hxi11 0; have qt11 := blk_cell (blk_below (blk_below HGT.out BI.out) hbn) 0; have qn0 := blk_cell hxn 0; have qn1 := blk_cell hxn 1; have qn2 := blk_cell hxn 2; have qn3 := blk_cell hxn 3; have zn0 := blk_frozen hxn 0; have zn1 := blk_frozen hxn 1; have zn2 := blk_frozen hxn 2; have zn3 := blk_frozen hxn 3; simp only [List.getElem?_toArray, List.getElem?_cons_zero, List.getElem?_cons_succ] at qn0 qn1 qn2 qn3 qi11 qt11; have lt9 := blk_lt HGT.out; have lx9 := blk_lt XI.out; have ei9 := EI.out; have sw9 := BI.out.size; have ne1 : (gn = gi) = False := eq_false (by omega); have ne2 : (gi = gn) = False := eq_false (by omega); have ne3 : (gt = gi) = False := eq_false (by omega); have ne4 : (gi = gt) = False := eq_false (by omega); have ne5 : (gt = gn) = False := eq_false (by omega); have ne6 : (gn = gt) = False := eq_false (by omega); clear hxn hbn egn hxi11 lt9 lx9 ei9 sw9)
              | (go_at_call 40; refine Hid.out ?_))
            refine Lib.hid ?_
            have lgx := blk_lt HX.out
            have lgr := blk_lt HRW.out
            have lgt := blk_lt HGT.out
            have egi := EI.out
            have egn := EN.out
            have s10 := BI.out.size
            have s11 := BN.out.size
            have sB := HB.out.size
            have lgi := blk_lt XI.out
            have lgn := blk_lt XN.out
            have eqs : (((((w11.setCell ⟨gi, 0, none⟩ (.int .i64 (j : Int))).setCell ⟨gn, 0, none⟩ (.int .i64 (rd_T34 l0_0 (j : Int)).f0)).setCell ⟨gn, 1, none⟩ (.int .i64 (rd_T34 l0_0 (j : Int)).f1)).setCell ⟨gn, 2, none⟩ (.int .i64 (rd_T34 l0_0 (j : Int)).f2)).setCell ⟨gn, 3, none⟩ (.slice A4 (rd_T34 l0_0 (j : Int)).f3.length c4')).heap.size = w11.heap.size := by simp [World.setCell]
            have hkN : ∀ p, p < wr.heap.size → (((((w11.setCell ⟨gi, 0, none⟩ (.int .i64 (j : Int))).setCell ⟨gn, 0, none⟩ (.int .i64 (rd_T34 l0_0 (j : Int)).f0)).setCell ⟨gn, 1, none⟩ (.int .i64 (rd_T34 l0_0 (j : Int)).f1)).setCell ⟨gn, 2, none⟩ (.int .i64 (rd_T34 l0_0 (j : Int)).f2)).setCell ⟨gn, 3, none⟩ (.slice A4 (rd_T34 l0_0 (j : Int)).f3.length c4')).heap[p]? = wr.heap[p]? := fun p hp => (Below.heap_setCell _ ⟨gn, 3, none⟩ _ p (by show p ≠ gn; omega)).trans ((Below.heap_setCell _ ⟨gn, 2, none⟩ _ p (by show p ≠ gn; omega)).trans ((Below.heap_setCell _ ⟨gn, 1, none⟩ _ p (by show p ≠ gn; omega)).trans ((Below.heap_setCell _ ⟨gn, 0, none⟩ _ p (by show p ≠ gn; omega)).trans ((Below.heap_setCell _ ⟨gi, 0, none⟩ _ p (by show p ≠ gi; omega)).trans ((BN.out.block p (by omega)).trans (BI.out.block p hp))))))
            have hgi : (((((w11.setCell ⟨gi, 0, none⟩ (.int .i64 (j : Int))).setCell ⟨gn, 0, none⟩ (.int .i64 (rd_T34 l0_0 (j : Int)).f0)).setCell ⟨gn, 1, none⟩ (.int .i64 (rd_T34 l0_0 (j : Int)).f1)).setCell ⟨gn, 2, none⟩ (.int .i64 (rd_T34 l0_0 (j : Int)).f2)).setCell ⟨gn, 3, none⟩ (.slice A4 (rd_T34 l0_0 (j : Int)).f3.length c4')).heap[gi]? = some (.cells #[.int .i64 (j : Int)] 3 (0, 0)) := (Below.heap_setCell _ ⟨gn, 3, none⟩ _ gi (by show gi ≠ gn; omega)).trans ((Below.heap_setCell _ ⟨gn, 2, none⟩ _ gi (by show gi ≠ gn; omega)).trans ((Below.heap_setCell _ ⟨gn, 1, none⟩ _ gi (by show gi ≠ gn; omega)).trans ((Below.heap_setCell _ ⟨gn, 0, none⟩ _ gi (by show gi ≠ gn; omega)).trans (blk_put XI11.out 0 _ rfl))))
            have bN : Below w.heap.size w (((((w11.setCell ⟨gi, 0, none⟩ (.int .i64 (j : Int))).setCell ⟨gn, 0, none⟩ (.int .i64 (rd_T34 l0_0 (j : Int)).f0)).setCell ⟨gn, 1, none⟩ (.int .i64 (rd_T34 l0_0 (j : Int)).f1)).setCell ⟨gn, 2, none⟩ (.int .i64 (rd_T34 l0_0 (j : Int)).f2)).setCell ⟨gn, 3, none⟩ (.slice A4 (rd_T34 l0_0 (j : Int)).f3.length c4')) := (((((((HB.out.trans (BI.out.mono sB)).trans (BN.out.mono (Nat.le_trans sB s10))).setCell (p := ⟨gi, 0, none⟩) (by show _ ≤ gi; omega) (.int .i64 (j : Int))).setCell (p := ⟨gn, 0, none⟩) (by show _ ≤ gn; omega) (.int .i64 (rd_T34 l0_0 (j : Int)).f0)).setCell (p := ⟨gn, 1, none⟩) (by show _ ≤ gn; omega) (.int .i64 (rd_T34 l0_0 (j : Int)).f1)).setCell (p := ⟨gn, 2, none⟩) (by show _ ≤ gn; omega) (.int .i64 (rd_T34 l0_0 (j : Int)).f2)).setCell (p := ⟨gn, 3, none⟩) (by show _ ≤ gn; omega) (.slice A4 (rd_T34 l0_0 (j : Int)).f3.length c4'))
            have J14 : tree_Owners.J gi gx gr gt i (.int .i64 (j : Int)) (.slice (some ad) l0_0.length c0_0) s (((((w11.setCell ⟨gi, 0, none⟩ (.int .i64 (j : Int))).setCell ⟨gn, 0, none⟩ (.int .i64 (rd_T34 l0_0 (j : Int)).f0)).setCell ⟨gn, 1, none⟩ (.int .i64 (rd_T34 l0_0 (j : Int)).f1)).setCell ⟨gn, 2, none⟩ (.int .i64 (rd_T34 l0_0 (j : Int)).f2)).setCell ⟨gn, 3, none⟩ (.slice A4 (rd_T34 l0_0 (j : Int)).f3.length c4')) := ⟨hgi, (hkN gx lgx).trans HX.out, (hkN gr lgr).trans HRW.out, HLEN.out, (hkN gt lgt).trans HGT.out⟩
            have NE := Aside0.mk (⟨by omega, ND.out.2.2, ND.out.1⟩ : gi ≠ gr ∧ gx ≠ gr ∧ gt ≠ gr)
            have FAR : ∀ N : Nat → Prop, (∀ q, N q → (((((w11.setCell ⟨gi, 0, none⟩ (.int .i64 (j : Int))).setCell ⟨gn, 0, none⟩ (.int .i64 (rd_T34 l0_0 (j : Int)).f0)).setCell ⟨gn, 1, none⟩ (.int .i64 (rd_T34 l0_0 (j : Int)).f1)).setCell ⟨gn, 2, none⟩ (.int .i64 (rd_T34 l0_0 (j : Int)).f2)).setCell ⟨gn, 3, none⟩ (.slice A4 (rd_T34 l0_0 (j : Int)).f3.length c4')).heap.size ≤ q) → ¬ N gi ∧ ¬ N gx ∧ ¬ N gr ∧ ¬ N gt := fun N hN => ⟨fun h => by have := hN _ h; omega, fun h => by have := hN _ h; omega, fun h => by have := hN _ h; omega, fun h => by have := hN _ h; omega⟩
            refine (tree_parts.calls (J := fun _ => tree_Owners.J gi gx gr gt i (.int .i64 (j : Int)) (.slice (some ad) l0_0.length c0_0)) (tok := tree_Owners.tok (j : Int)) (kid := tree_Owners.kid) (w0 := w) rfl bN (fun N s W W' h hb => tree_Owners.below h hb) (fun N s W k j u hN hk h => tree_Owners.set (FAR N hN) k j u hk h) (fun N hN => tree_Owners.tok_step HS.out.2.1 (FAR N hN) NE.out) (fun N _ => tree_Owners.kid_step) _ _ l0_0 _ _ _ _ _ _ _ _ HR.out K3.out RUN.out (fun N _ => J14)).mono ?_
            rintro e w12 ⟨rfl, ⟨N12, _, hj12⟩, hb12⟩
            have J12 := Aside0.mk hj12
            have B12 := Aside0.mk hb12
            have ew2 : wrap64 ((j : Int) + 1) = ((j + 1 : Nat) : Int) := by have := HL.out; unfold wrap64; omega
            clear hj12 hb12 FAR J14 bN hgi hkN eqs lgx lgr lgt egi egn s10 s11 sB lgi lgn n0 n1' n2 n3 qn0 qn1 qn2 qn3 zn0 zn1 zn2 zn3 qi11 qt11 zi11 qi zi qx0 qt0 ne1 ne2 ne3 ne4 ne5 ne6 EI EN BI BN XI XN XI11 HX HRW HGT HB
            go_wp2
            go_roundg k1
            case measure => omega
            case rel => exact ⟨j + 1, s2, by rw [ew2], ⟨by have := HJ.out; omega⟩, U2, ⟨J12.out.2.1⟩, ⟨J12.out.2.2.1⟩, ⟨J12.out.2.2.2.1⟩, ⟨J12.out.2.2.2.2⟩, B12⟩
          · have c4 : ¬ (j : Int) < (l0_0.length : Int) := by omega
            have c5 : decide ((j : Int) < (l0_0.length : Int)) = false := decide_eq_false c4
            have hg0 : gk = 0 := by have := HJ.out; omega
            subst hg0
            have etx : s = r1 := Option.some.inj HU.out
            subst etx
            go_wp2
            go_ret2
            refine ⟨.slice (some ⟨gr, 0, none⟩) i i, rfl, Kd.R_of_own (enc := Value.int .i64) ?_ (fun _ _ => trivial), HB.out⟩
            refine ⟨by rw [encs_length, Nat.mul_one], .inr ⟨gr, i, _, ?_, HS.out.2.1, HRW.out, ?_, ?_, ?_, ?_⟩⟩
            · rw [HLEN.out]
            · exact Nat.le_of_eq HLEN.out
            · have := HM.out
              unfold maxLen
              omega
            · simp [HLEN.out]
            · rw [Nat.mul_one]
              show List.take s.length (s.map (Value.int .i64)) = s.map (Value.int .i64)
              exact List.take_of_length_le (Nat.le_of_eq (List.length_map _))
  · rw [if_neg (show ¬ ((some q : Option Er).isNone = true) by simp)] at h
    cases h
    go_enter Tryd.func12, Tryd.ntmps12
    go_wp2_with (first
      | ((with_reducible refine gate_dst (N := 1) rfl ?_); refine box_event ?hg (N := 1) ?hd (cs := #[.slice A0_0 l0_0.length c0_0]) (t := 24) ?hr ?_; (case hd => rfl); (case hg => rfl); (case hr => first | (go_simp; done) | (go_simp; rfl)); intro gb eggb w2 hxgb hbgb; clear eggb; have BB := Aside0.mk hbgb; have qb := blk_cell hxgb 0; simp only [List.getElem?_toArray, List.getElem?_cons_zero, List.getElem?_cons_succ] at qb; clear hbgb)
      | (go_at_call 39; (refine (tree_sound.calls k _ _ l0_0 (some q) _ (Kd.C_below HR.out BB.out) HC.out AS.out).mono ?_); rintro e w3 ⟨rfl, hb3⟩; have B3 := Aside0.mk hb3; clear hb3; try simp only [errW_some]))
    go_ret2
    exact ⟨.slice none 0 0, rfl, Kd.R_nil _ _ _ _ _, BB.out.trans (B3.out.mono BB.out.size)⟩

/-! ### tree_At: function 34 -/
def tree_At.f (k : Nat) (l0_0 : List (S34)) (a1 : Int) : Option (Int × Option Er) := (tree_Owners.f k l0_0).bind fun bt190 => (if bt190.2.isNone = true then (if a1 < 0 then (some (0, some (Er.no 4))) else (if a1 ≥ (bt190.1.length : Int) then (some (0, some (Er.no 4))) else (if 0 ≤ a1 then (if a1 < (bt190.1.length : Int) then (if (rd bt190.1 a1) < 0 then (some (0, some (Er.no 4))) else (some (rd bt190.1 a1, none))) else (none)) else (none)))) else (some (0, some (bt190.2.getD (Er.no 0)))))
theorem tree_At.mono : ∀ a0 a1 k, LeO (tree_At.f k a0 a1) (tree_At.f (k + 1) a0 a1) := by
  intro a0 a1 k
  unfold tree_At.f
  repeat' first
      | (with_reducible exact tree_Owners.mono _ _)
      | (with_reducible exact LeO.refl _)
      | (with_reducible exact LeO.none _)
      | (with_reducible refine LeO.ite ?_ ?_)
      | (with_reducible refine LeO.bind ?_ (fun _ => ?_))
      | exact tree_Owners.mono _ _
      | exact LeO.none _
      | refine LeO.ite ?_ ?_
      | refine LeO.bind ?_ (fun _ => ?_)
set_option maxHeartbeats 8000000 in
set_option maxRecDepth 100000 in
theorem tree_At.calls (k : Nat) (A0_0 : Option Addr) (c0_0 : Nat) (l0_0 : List (S34)) (a1 : Int) (r1 : Int) (r2 : Option Er) (w : World) (hr0_0 : Kd.C k34 w A0_0 l0_0.length l0_0) (hc0_0 : l0_0.length ≤ c0_0) (h : tree_At.f k l0_0 a1 = some (r1, r2)) :
    Calls Tryd.prog 34 #[.agg #[.slice A0_0 l0_0.length c0_0], .int .i64 a1] w fun e w' => e = .returned (.tuple #[.int .i64 r1, errW r2]) ∧ Below w.heap.size w w' := by
  have hu24 := Tryd.underlying24
  have hu30 := Tryd.underlying30
  have hu74 := Tryd.underlying74
  have HR0_0 := Aside0.mk hr0_0
  have HC0_0 := Aside0.mk hc0_0
  clear hr0_0 hc0_0
  have HB := Aside0.mk (Below.refl w.heap.size w)
  have H : ((tree_Owners.f k l0_0).bind fun bt190 => (if bt190.2.isNone = true then (if a1 < 0 then (some (0, some (Er.no 4))) else (if a1 ≥ (bt190.1.length : Int) then (some (0, some (Er.no 4))) else (if 0 ≤ a1 then (if a1 < (bt190.1.length : Int) then (if (rd bt190.1 a1) < 0 then (some (0, some (Er.no 4))) else (some (rd bt190.1 a1, none))) else (none)) else (none)))) else (some (0, some (bt190.2.getD (Er.no 0)))))) = some (r1, r2) := h
  clear h
  replace H := Option.bind_eq_some_iff.mp H
  obtain ⟨⟨t190, t193⟩, A30, H⟩ := H
  replace H : (if t193.isNone = true then (if a1 < 0 then (some (0, some (Er.no 4))) else (if a1 ≥ (t190.length : Int) then (some (0, some (Er.no 4))) else (if 0 ≤ a1 then (if a1 < (t190.length : Int) then (if (rd t190 a1) < 0 then (some (0, some (Er.no 4))) else (some (rd t190 a1, none))) else (none)) else (none)))) else (some (0, some (t193.getD (Er.no 0))))) = some (r1, r2) := H
  have A3 := Aside0.mk A30
  clear A30
  rcases t193 with _ | q194
  · have H1 : (if a1 < 0 then (some (0, some (Er.no 4))) else (if a1 ≥ (t190.length : Int) then (some (0, some (Er.no 4))) else (if 0 ≤ a1 then (if a1 < (t190.length : Int) then (if (rd t190 a1) < 0 then (some (0, some (Er.no 4))) else (some (rd t190 a1, none))) else (none)) else (none)))) = some (r1, r2) := by rw [if_pos (show (none : Option Er).isNone = true by rfl)] at H; exact H
    clear H
    have H := H1
    clear H1
    try simp only [errW_none, errW_some, erT_no, erV_no, erT_at, erV_at]
    by_cases c4 : a1 < 0
    · rw [if_pos c4] at H
      have c4b0 : decide (a1 < 0) = true := decide_eq_true c4
      clear c4
      simp only [Option.some.injEq, Prod.mk.injEq] at H
      obtain ⟨rfl, rfl⟩ := H
      go_enter Tryd.func34, Tryd.ntmps34
      go_wp2_with (first | ((with_reducible refine gate_dst (N := 2) rfl ?_); (try (refine gate_guard (by rfl) ?_; dsimp only)); refine box_event ?hg (N := 2) ?hd (cs := #[.slice A0_0 l0_0.length c0_0]) (t := 24) ?hr ?_; (case hd => rfl); (case hg => rfl); (case hr => first | (go_simp; done) | (go_simp; rfl)); intro gb189 hg w5 hbox hb; have n0_ := Aside0.mk (below_step (by repeat (first | (with_reducible first | exact HB.out | apply below_alloc | apply pw_below_drewN | apply below_drew1) | exact HB.out)) hb); have n1_ := Aside0.mk (hbox); have n2_ := Aside0.mk ((by rw [hg]; exact (below_size (by repeat (first | (with_reducible first | exact HB.out | apply below_alloc | apply pw_below_drewN | apply below_drew1) | exact HB.out))) : w.heap.size ≤ gb189)); have n3_ := Aside0.mk ((by rw [hg]; exact (below_size (by repeat (first | (with_reducible first | exact HB.out | apply below_alloc | apply pw_below_drewN | apply below_drew1) | exact HB.out))) : w.heap.size ≤ gb189)); clear HB; have HB := n0_; have BK189 := n1_; have GW189 := n2_; have GE189 := n3_; clear n0_ n1_ n2_ n3_; clear hb hbox hg; have hcz6_0 : w5.cell? ⟨gb189, 0, none⟩ = some (.slice A0_0 l0_0.length c0_0) := (blk_cell BK189.out 0).trans rfl; have hfz6_0 := blk_frozen BK189.out 0) | ((with_reducible refine gate_callee (f := 12) rfl ?_); refine goesL_ (some 10) rfl rfl Tryd.func12 (by kernel_rfl) rfl #[.agg #[.slice A0_0 l0_0.length c0_0]] rfl (by (try simp only [List.map_toArray, List.map_cons, List.map_nil]); first | done | rfl | (simp only [List.length_drop, List.length_take]; rfl)) ?_; (with_reducible refine (tree_Owners.calls k _ _ l0_0 t190 none _ ?side1 ?side2 A3.out).mono ?_); (case side1 => repeat (first | exact (Kd.C_below HR0_0.out HB.out) | (with_reducible refine Kd.C_alloc ?_ _) | (with_reducible refine Kd.C_drewN ?_ _) | (with_reducible refine Kd.C_drew ?_))); (case side2 => exact HC0_0.out); rintro e w7 ⟨v191, rfl, ho0, hb⟩; refine ⟨_, rfl, ?_⟩; have n0_ := Aside0.mk (Kd.R_lower ho0 (below_size (by repeat (first | (with_reducible first | exact HB.out | apply below_alloc | apply pw_below_drewN | apply below_drew1 | refine below_set ?_ GE189.out) | exact HB.out)))); have n1_ := Aside0.mk (blk_below (g := gb189) (o := .cells #[.slice A0_0 l0_0.length c0_0] 24 (0, 0)) (by (with_reducible repeat (first | refine blk_drewN ?_ _ | refine blk_drew ?_ | refine blk_alloc ?_ _)); exact BK189.out) hb); have n2_ := Aside0.mk (below_step (by repeat (first | (with_reducible first | exact HB.out | apply below_alloc | apply pw_below_drewN | apply below_drew1 | refine below_set ?_ GE189.out) | exact HB.out)) hb); clear BK189; clear HB; have HO192 := n0_; have BK189 := n1_; have HB := n2_; clear n0_ n1_ n2_; (try clear hb); (try clear hb2); (try clear hk); (try clear hi); (try clear ho0); (try simp only [errW_none, errW_some, erT_no, erV_no, erT_at, erV_at])))
      go_ret2
      exact ⟨by first | rfl | (simp [errW_none, errW_some, erT_no, erV_no, erT_at, erV_at] <;> rfl) | (simp [*, errW_none, errW_some, erT_no, erV_no, erT_at, erV_at] <;> rfl), by repeat (first | (with_reducible first | exact HB.out | apply below_alloc | apply pw_below_drewN | apply below_drew1 | refine below_set ?_ GE189.out) | exact HB.out)⟩
    · rw [if_neg c4] at H
      have c4b0 : decide (a1 < 0) = false := decide_eq_false c4
      clear c4
      by_cases c8 : a1 ≥ (t190.length : Int)
      · rw [if_pos c8] at H
        have c8b0 : decide ((t190.length : Int) ≤ a1) = true := decide_eq_true c8
        clear c8
        simp only [Option.some.injEq, Prod.mk.injEq] at H
        obtain ⟨rfl, rfl⟩ := H
        go_enter Tryd.func34, Tryd.ntmps34
        go_wp2_with (first | ((with_reducible refine gate_dst (N := 2) rfl ?_); (try (refine gate_guard (by rfl) ?_; dsimp only)); refine box_event ?hg (N := 2) ?hd (cs := #[.slice A0_0 l0_0.length c0_0]) (t := 24) ?hr ?_; (case hd => rfl); (case hg => rfl); (case hr => first | (go_simp; done) | (go_simp; rfl)); intro gb189 hg w9 hbox hb; have n0_ := Aside0.mk (below_step (by repeat (first | (with_reducible first | exact HB.out | apply below_alloc | apply pw_below_drewN | apply below_drew1) | exact HB.out)) hb); have n1_ := Aside0.mk (hbox); have n2_ := Aside0.mk ((by rw [hg]; exact (below_size (by repeat (first | (with_reducible first | exact HB.out | apply below_alloc | apply pw_below_drewN | apply below_drew1) | exact HB.out))) : w.heap.size ≤ gb189)); have n3_ := Aside0.mk ((by rw [hg]; exact (below_size (by repeat (first | (with_reducible first | exact HB.out | apply below_alloc | apply pw_below_drewN | apply below_drew1) | exact HB.out))) : w.heap.size ≤ gb189)); clear HB; have HB := n0_; have BK189 := n1_; have GW189 := n2_; have GE189 := n3_; clear n0_ n1_ n2_ n3_; clear hb hbox hg; have hcz10_0 : w9.cell? ⟨gb189, 0, none⟩ = some (.slice A0_0 l0_0.length c0_0) := (blk_cell BK189.out 0).trans rfl; have hfz10_0 := blk_frozen BK189.out 0) | ((with_reducible refine gate_callee (f := 12) rfl ?_); refine goesL_ (some 10) rfl rfl Tryd.func12 (by kernel_rfl) rfl #[.agg #[.slice A0_0 l0_0.length c0_0]] rfl (by (try simp only [List.map_toArray, List.map_cons, List.map_nil]); first | done | rfl | (simp only [List.length_drop, List.length_take]; rfl)) ?_; (with_reducible refine (tree_Owners.calls k _ _ l0_0 t190 none _ ?side1 ?side2 A3.out).mono ?_); (case side1 => repeat (first | exact (Kd.C_below HR0_0.out HB.out) | (with_reducible refine Kd.C_alloc ?_ _) | (with_reducible refine Kd.C_drewN ?_ _) | (with_reducible refine Kd.C_drew ?_))); (case side2 => exact HC0_0.out); rintro e w11 ⟨v191, rfl, ho0, hb⟩; refine ⟨_, rfl, ?_⟩; have n0_ := Aside0.mk (Kd.R_lower ho0 (below_size (by repeat (first | (with_reducible first | exact HB.out | apply below_alloc | apply pw_below_drewN | apply below_drew1 | refine below_set ?_ GE189.out) | exact HB.out)))); have n1_ := Aside0.mk (blk_below (g := gb189) (o := .cells #[.slice A0_0 l0_0.length c0_0] 24 (0, 0)) (by (with_reducible repeat (first | refine blk_drewN ?_ _ | refine blk_drew ?_ | refine blk_alloc ?_ _)); exact BK189.out) hb); have n2_ := Aside0.mk (below_step (by repeat (first | (with_reducible first | exact HB.out | apply below_alloc | apply pw_below_drewN | apply below_drew1 | refine below_set ?_ GE189.out) | exact HB.out)) hb); clear BK189; clear HB; have HO192 := n0_; have BK189 := n1_; have HB := n2_; clear n0_ n1_ n2_; (try clear hb); (try clear hb2); (try clear hk); (try clear hi); (try clear ho0); (try simp only [errW_none, errW_some, erT_no, erV_no, erT_at, erV_at]); obtain ⟨Ao12, co12, eo12⟩ := Kd.R_slice HO192.out; subst eo12))
        go_ret2
        exact ⟨by first | rfl | (simp [errW_none, errW_some, erT_no, erV_no, erT_at, erV_at] <;> rfl) | (simp [*, errW_none, errW_some, erT_no, erV_no, erT_at, erV_at] <;> rfl), by repeat (first | (with_reducible first | exact HB.out | apply below_alloc | apply pw_below_drewN | apply below_drew1 | refine below_set ?_ GE189.out) | exact HB.out)⟩
      · rw [if_neg c8] at H
        have c8b0 : decide ((t190.length : Int) ≤ a1) = false := decide_eq_false c8
        clear c8
        by_cases c13 : 0 ≤ a1
        · rw [if_pos c13] at H
          have c13b0 : decide (0 ≤ a1) = true := decide_eq_true c13
          clear c13
          by_cases c14 : a1 < (t190.length : Int)
          · rw [if_pos c14] at H
            have c14b0 : decide (a1 < (t190.length : Int)) = true := decide_eq_true c14
            clear c14
            by_cases c15 : (rd t190 a1) < 0
            · rw [if_pos c15] at H
              have c15b0 : decide ((rd t190 a1) < 0) = true := decide_eq_true c15
              clear c15
              simp only [Option.some.injEq, Prod.mk.injEq] at H
              obtain ⟨rfl, rfl⟩ := H
              go_enter Tryd.func34, Tryd.ntmps34
              go_wp2_with (first | ((with_reducible refine gate_dst (N := 2) rfl ?_); (try (refine gate_guard (by rfl) ?_; dsimp only)); refine box_event ?hg (N := 2) ?hd (cs := #[.slice A0_0 l0_0.length c0_0]) (t := 24) ?hr ?_; (case hd => rfl); (case hg => rfl); (case hr => first | (go_simp; done) | (go_simp; rfl)); intro gb189 hg w16 hbox hb; have n0_ := Aside0.mk (below_step (by repeat (first | (with_reducible first | exact HB.out | apply below_alloc | apply pw_below_drewN | apply below_drew1) | exact HB.out)) hb); have n1_ := Aside0.mk (hbox); have n2_ := Aside0.mk ((by rw [hg]; exact (below_size (by repeat (first | (with_reducible first | exact HB.out | apply below_alloc | apply pw_below_drewN | apply below_drew1) | exact HB.out))) : w.heap.size ≤ gb189)); have n3_ := Aside0.mk ((by rw [hg]; exact (below_size (by repeat (first | (with_reducible first | exact HB.out | apply below_alloc | apply pw_below_drewN | apply below_drew1) | exact HB.out))) : w.heap.size ≤ gb189)); clear HB; have HB := n0_; have BK189 := n1_; have GW189 := n2_; have GE189 := n3_; clear n0_ n1_ n2_ n3_; clear hb hbox hg; have hcz17_0 : w16.cell? ⟨gb189, 0, none⟩ = some (.slice A0_0 l0_0.length c0_0) := (blk_cell BK189.out 0).trans rfl; have hfz17_0 := blk_frozen BK189.out 0) | ((with_reducible refine gate_callee (f := 12) rfl ?_); refine goesL_ (some 10) rfl rfl Tryd.func12 (by kernel_rfl) rfl #[.agg #[.slice A0_0 l0_0.length c0_0]] rfl (by (try simp only [List.map_toArray, List.map_cons, List.map_nil]); first | done | rfl | (simp only [List.length_drop, List.length_take]; rfl)) ?_; (with_reducible refine (tree_Owners.calls k _ _ l0_0 t190 none _ ?side1 ?side2 A3.out).mono ?_); (case side1 => repeat (first | exact (Kd.C_below HR0_0.out HB.out) | (with_reducible refine Kd.C_alloc ?_ _) | (with_reducible refine Kd.C_drewN ?_ _) | (with_reducible refine Kd.C_drew ?_))); (case side2 => exact HC0_0.out); rintro e w18 ⟨v191, rfl, ho0, hb⟩; refine ⟨_, rfl, ?_⟩; have n0_ := Aside0.mk (Kd.R_lower ho0 (below_size (by repeat (first | (with_reducible first | exact HB.out | apply below_alloc | apply pw_below_drewN | apply below_drew1 | refine below_set ?_ GE189.out) | exact HB.out)))); have n1_ := Aside0.mk (blk_below (g := gb189) (o := .cells #[.slice A0_0 l0_0.length c0_0] 24 (0, 0)) (by (with_reducible repeat (first | refine blk_drewN ?_ _ | refine blk_drew ?_ | refine blk_alloc ?_ _)); exact BK189.out) hb); have n2_ := Aside0.mk (below_step (by repeat (first | (with_reducible first | exact HB.out | apply below_alloc | apply pw_below_drewN | apply below_drew1 | refine below_set ?_ GE189.out) | exact HB.out)) hb); clear BK189; clear HB; have HO192 := n0_; have BK189 := n1_; have HB := n2_; clear n0_ n1_ n2_; (try clear hb); (try clear hb2); (try clear hk); (try clear hi); (try clear ho0); (try simp only [errW_none, errW_some, erT_no, erV_no, erT_at, erV_at]); obtain ⟨Ao19, co19, eo19⟩ := Kd.R_slice HO192.out; subst eo19; have p195 : 0 ≤ (a1 : Int) := of_decide_eq_true (by first | (with_reducible assumption) | assumption); have q195 : a1 < (t190.length : Int) := of_decide_eq_true (by first | (with_reducible assumption) | assumption); obtain ⟨ad195, e195, hx195_0⟩ := Kd.at_int (Kd.R_reads' HO192.out).2.2 a1 p195 q195; cases e195; replace p195 := eq_true p195; replace q195 := eq_true q195))
              go_ret2
              exact ⟨by first | rfl | (simp [errW_none, errW_some, erT_no, erV_no, erT_at, erV_at] <;> rfl) | (simp [*, errW_none, errW_some, erT_no, erV_no, erT_at, erV_at] <;> rfl), by repeat (first | (with_reducible first | exact HB.out | apply below_alloc | apply pw_below_drewN | apply below_drew1 | refine below_set ?_ GE189.out) | exact HB.out)⟩
            · rw [if_neg c15] at H
              have c15b0 : decide ((rd t190 a1) < 0) = false := decide_eq_false c15
              clear c15
              simp only [Option.some.injEq, Prod.mk.injEq] at H
              obtain ⟨rfl, rfl⟩ := H
              go_enter Tryd.func34, Tryd.ntmps34
              go_wp2_with (first | ((with_reducible refine gate_dst (N := 2) rfl ?_); (try (refine gate_guard (by rfl) ?_; dsimp only)); refine box_event ?hg (N := 2) ?hd (cs := #[.slice A0_0 l0_0.length c0_0]) (t := 24) ?hr ?_; (case hd => rfl); (case hg => rfl); (case hr => first | (go_simp; done) | (go_simp; rfl)); intro gb189 hg w20 hbox hb; have n0_ := Aside0.mk (below_step (by repeat (first | (with_reducible first | exact HB.out | apply below_alloc | apply pw_below_drewN | apply below_drew1) | exact HB.out)) hb); have n1_ := Aside0.mk (hbox); have n2_ := Aside0.mk ((by rw [hg]; exact (below_size (by repeat (first | (with_reducible first | exact HB.out | apply below_alloc | apply pw_below_drewN | apply below_drew1) | exact HB.out))) : w.heap.size ≤ gb189)); have n3_ := Aside0.mk ((by rw [hg]; exact (below_size (by repeat (first | (with_reducible first | exact HB.out | apply below_alloc | apply pw_below_drewN | apply below_drew1) | exact HB.out))) : w.heap.size ≤ gb189)); clear HB; have HB := n0_; have BK189 := n1_; have GW189 := n2_; have GE189 := n3_; clear n0_ n1_ n2_ n3_; clear hb hbox hg; have hcz21_0 : w20.cell? ⟨gb189, 0, none⟩ = some (.slice A0_0 l0_0.length c0_0) := (blk_cell BK189.out 0).trans rfl; have hfz21_0 := blk_frozen BK189.out 0) | ((with_reducible refine gate_callee (f := 12) rfl ?_); refine goesL_ (some 10) rfl rfl Tryd.func12 (by kernel_rfl) rfl #[.agg #[.slice A0_0 l0_0.length c0_0]] rfl (by (try simp only [List.map_toArray, List.map_cons, List.map_nil]); first | done | rfl | (simp only [List.length_drop, List.length_take]; rfl)) ?_; (with_reducible refine (tree_Owners.calls k _ _ l0_0 t190 none _ ?side1 ?side2 A3.out).mono ?_); (case side1 => repeat (first | exact (Kd.C_below HR0_0.out HB.out) | (with_reducible refine Kd.C_alloc ?_ _) | (with_reducible refine Kd.C_drewN ?_ _) | (with_reducible refine Kd.C_drew ?_))); (case side2 => exact HC0_0.out); rintro e w22 ⟨v191, rfl, ho0, hb⟩; refine ⟨_, rfl, ?_⟩; have n0_ := Aside0.mk (Kd.R_lower ho0 (below_size (by repeat (first | (with_reducible first | exact HB.out | apply below_alloc | apply pw_below_drewN | apply below_drew1 | refine below_set ?_ GE189.out) | exact HB.out)))); have n1_ := Aside0.mk (blk_below (g := gb189) (o := .cells #[.slice A0_0 l0_0.length c0_0] 24 (0, 0)) (by (with_reducible repeat (first | refine blk_drewN ?_ _ | refine blk_drew ?_ | refine blk_alloc ?_ _)); exact BK189.out) hb); have n2_ := Aside0.mk (below_step (by repeat (first | (with_reducible first | exact HB.out | apply below_alloc | apply pw_below_drewN | apply below_drew1 | refine below_set ?_ GE189.out) | exact HB.out)) hb); clear BK189; clear HB; have HO192 := n0_; have BK189 := n1_; have HB := n2_; clear n0_ n1_ n2_; (try clear hb); (try clear hb2); (try clear hk); (try clear hi); (try clear ho0); (try simp only [errW_none, errW_some, erT_no, erV_no, erT_at, erV_at]); obtain ⟨Ao23, co23, eo23⟩ := Kd.R_slice HO192.out; subst eo23; have p195 : 0 ≤ (a1 : Int) := of_decide_eq_true (by first | (with_reducible assumption) | assumption); have q195 : a1 < (t190.length : Int) := of_decide_eq_true (by first | (with_reducible assumption) | assumption); obtain ⟨ad195, e195, hx195_0⟩ := Kd.at_int (Kd.R_reads' HO192.out).2.2 a1 p195 q195; cases e195; replace p195 := eq_true p195; replace q195 := eq_true q195; have p196 : 0 ≤ (a1 : Int) := of_decide_eq_true (by first | (with_reducible assumption) | assumption); have q196 : a1 < (t190.length : Int) := of_decide_eq_true (by first | (with_reducible assumption) | assumption); obtain ⟨ad196, e196, hx196_0⟩ := Kd.at_int (Kd.R_reads' HO192.out).2.2 a1 p196 q196; obtain rfl : ad195 = ad196 := (by injection e196); replace p196 := eq_true p196; replace q196 := eq_true q196))
              go_ret2
              exact ⟨by first | rfl | (simp [errW_none, errW_some, erT_no, erV_no, erT_at, erV_at] <;> rfl) | (simp [*, errW_none, errW_some, erT_no, erV_no, erT_at, erV_at] <;> rfl), by repeat (first | (with_reducible first | exact HB.out | apply below_alloc | apply pw_below_drewN | apply below_drew1 | refine below_set ?_ GE189.out) | exact HB.out)⟩
          · rw [if_neg c14] at H
            exact absurd H (by simp)
        · rw [if_neg c13] at H
          exact absurd H (by simp)
  · have H1 : (some (0, some q194)) = some (r1, r2) := by rw [if_neg (show ¬ (some q194).isNone = true by simp)] at H; exact H
    clear H
    have H := H1
    clear H1
    try simp only [errW_none, errW_some, erT_no, erV_no, erT_at, erV_at]
    simp only [Option.some.injEq, Prod.mk.injEq] at H
    obtain ⟨rfl, rfl⟩ := H
    go_enter Tryd.func34, Tryd.ntmps34
    go_wp2_with (first | ((with_reducible refine gate_dst (N := 2) rfl ?_); (try (refine gate_guard (by rfl) ?_; dsimp only)); refine box_event ?hg (N := 2) ?hd (cs := #[.slice A0_0 l0_0.length c0_0]) (t := 24) ?hr ?_; (case hd => rfl); (case hg => rfl); (case hr => first | (go_simp; done) | (go_simp; rfl)); intro gb189 hg w24 hbox hb; have n0_ := Aside0.mk (below_step (by repeat (first | (with_reducible first | exact HB.out | apply below_alloc | apply pw_below_drewN | apply below_drew1) | exact HB.out)) hb); have n1_ := Aside0.mk (hbox); have n2_ := Aside0.mk ((by rw [hg]; exact (below_size (by repeat (first | (with_reducible first | exact HB.out | apply below_alloc | apply pw_below_drewN | apply below_drew1) | exact HB.out))) : w.heap.size ≤ gb189)); have n3_ := Aside0.mk ((by rw [hg]; exact (below_size (by repeat (first | (with_reducible first | exact HB.out | apply below_alloc | apply pw_below_drewN | apply below_drew1) | exact HB.out))) : w.heap.size ≤ gb189)); clear HB; have HB := n0_; have BK189 := n1_; have GW189 := n2_; have GE189 := n3_; clear n0_ n1_ n2_ n3_; clear hb hbox hg; have hcz25_0 : w24.cell? ⟨gb189, 0, none⟩ = some (.slice A0_0 l0_0.length c0_0) := (blk_cell BK189.out 0).trans rfl; have hfz25_0 := blk_frozen BK189.out 0) | ((with_reducible refine gate_callee (f := 12) rfl ?_); refine goesL_ (some 10) rfl rfl Tryd.func12 (by kernel_rfl) rfl #[.agg #[.slice A0_0 l0_0.length c0_0]] rfl (by (try simp only [List.map_toArray, List.map_cons, List.map_nil]); first | done | rfl | (simp only [List.length_drop, List.length_take]; rfl)) ?_; (with_reducible refine (tree_Owners.calls k _ _ l0_0 t190 (some q194) _ ?side1 ?side2 A3.out).mono ?_); (case side1 => repeat (first | exact (Kd.C_below HR0_0.out HB.out) | (with_reducible refine Kd.C_alloc ?_ _) | (with_reducible refine Kd.C_drewN ?_ _) | (with_reducible refine Kd.C_drew ?_))); (case side2 => exact HC0_0.out); rintro e w26 ⟨v191, rfl, ho0, hb⟩; refine ⟨_, rfl, ?_⟩; have n0_ := Aside0.mk (Kd.R_lower ho0 (below_size (by repeat (first | (with_reducible first | exact HB.out | apply below_alloc | apply pw_below_drewN | apply below_drew1 | refine below_set ?_ GE189.out) | exact HB.out)))); have n1_ := Aside0.mk (blk_below (g := gb189) (o := .cells #[.slice A0_0 l0_0.length c0_0] 24 (0, 0)) (by (with_reducible repeat (first | refine blk_drewN ?_ _ | refine blk_drew ?_ | refine blk_alloc ?_ _)); exact BK189.out) hb); have n2_ := Aside0.mk (below_step (by repeat (first | (with_reducible first | exact HB.out | apply below_alloc | apply pw_below_drewN | apply below_drew1 | refine below_set ?_ GE189.out) | exact HB.out)) hb); clear BK189; clear HB; have HO192 := n0_; have BK189 := n1_; have HB := n2_; clear n0_ n1_ n2_; (try clear hb); (try clear hb2); (try clear hk); (try clear hi); (try clear ho0); (try simp only [errW_none, errW_some, erT_no, erV_no, erT_at, erV_at])))
    go_ret2
    exact ⟨by first | rfl | (simp [errW_none, errW_some, erT_no, erV_no, erT_at, erV_at] <;> rfl) | (simp [*, errW_none, errW_some, erT_no, erV_no, erT_at, erV_at] <;> rfl), by repeat (first | (with_reducible first | exact HB.out | apply below_alloc | apply pw_below_drewN | apply below_drew1 | refine below_set ?_ GE189.out) | exact HB.out)⟩

end Go.Proofs.YtnpgadfoohjlnabDoor.QX
