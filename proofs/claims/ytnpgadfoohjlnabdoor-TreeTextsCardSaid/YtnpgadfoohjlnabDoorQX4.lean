/- Where a Lean function of this text answers, the Go function of its name comes to that answer: no other condition. Written by a program of this session out of the translation; Lean checks it. -/
import Derived.Test.YtnpgadfoohjlnabDoorQX0
import Derived.Test.YtnpgadfoohjlnabDoorQX2
import Derived.Test.YtnpgadfoohjlnabDoorQX3
namespace Go.Proofs.YtnpgadfoohjlnabDoor.QX
open Go.RowKit Go.Proofs.YtnpgadfoohjlnabDoorW.PrintWords Go.Proofs.YtnpgadfoohjlnabDoorW.PrintLast Go.Proofs.YtnpgadfoohjlnabDoorW.PrintMore Go.Proofs.YtnpgadfoohjlnabDoorW.PrintX
attribute [local go_sem] max2_int min2_int max_two min_two max_three min_three max_four min_four   -- for this text's walks alone
set_option linter.unusedVariables false
set_option linter.unusedSimpArgs false

/-! ### tree_Text: function 33 -/
/-- A number from 0 to 99 in digits. -/
def tree_Text.dig (i : Nat) : List UInt8 := if i < 10 then [UInt8.ofNat (48 + i)] else [UInt8.ofNat (48 + i / 10), UInt8.ofNat (48 + i % 10)]
theorem tree_Text.dig_eq (i : Nat) (h : i < 100) : Lib.decDigits i = tree_Text.dig i := by
  unfold tree_Text.dig
  rw [Lib.decDigits]
  by_cases c : i < 10
  · rw [dif_pos c, if_pos c]
  · rw [dif_neg c, if_neg c, Lib.decDigits, dif_pos (by omega)]
    rfl
theorem tree_Text.dig_len (i : Nat) : (tree_Text.dig i).length ≤ 2 := by
  unfold tree_Text.dig
  split <;> simp
theorem tree_Text.ownsRowF_step {W W' : World} {B e size n : Nat} {v : Value} {xs : List Value} (h : W.ownsRowF B e size v n xs) (hk : ∀ k, v.ownBlock = some k → W'.heap[k]? = W.heap[k]?) : W'.ownsRowF B e size v n xs := by
  obtain ⟨h1, h2⟩ := h
  refine ⟨h1, h2.imp id ?_⟩
  rintro ⟨g, cap, cur, fz, rfl, hb, hh, r⟩
  exact ⟨g, cap, cur, fz, rfl, hb, (hk g (by simp [Value.ownBlock])).trans hh, r⟩
theorem tree_Text.ownsRowF_row {W : World} {B e size n : Nat} {v : Value} {xs : List Value} (h : W.ownsRowF B e size v n xs) (k : Nat) (hk : v.ownBlock = some k) : ∃ c fz, W.heap[k]? = some (.cells c e fz) := by
  obtain ⟨_, h2⟩ := h
  rcases h2 with ⟨rfl, _⟩ | ⟨g, cap, cur, fz, rfl, _, hh, _⟩
  · simp [Value.ownBlock] at hk
  · simp [Value.ownBlock] at hk
    subst hk
    exact ⟨cur, fz, hh⟩
/-- The builder of block gb holds the bytes l; neither it nor its row is among the blocks N. -/
def tree_Text.Bld (B gb : Nat) (N : Nat → Prop) (l : List UInt8) (W : World) : Prop :=
  ∃ p v : Value, (p = .pointer none ∨ p = .pointer (some ⟨gb, 0, none⟩)) ∧ B ≤ gb ∧ W.heap[gb]? = some (.cells #[p, v] 100 (0, 0)) ∧ W.ownsRowF B 5 1 v (Lib.byteCells l).length (Lib.byteCells l) ∧ v.ownBlock ≠ some gb ∧ ∀ k, v.ownBlock = some k → ¬ N k
theorem tree_Text.Bld.is {B gb : Nat} {N : Nat → Prop} {l : List UInt8} {W : World} (h : tree_Text.Bld B gb N l W) : Lib.IsBuilderF 100 5 B gb (Lib.byteCells l) W := by
  obtain ⟨p, v, rfl | rfl, h1, h2, h3, h4, _⟩ := h
  · exact .inl ⟨h1, v, h2, h3, h4⟩
  · exact .inr ⟨h1, v, h2, h3, h4⟩
theorem tree_Text.Bld.of {B gb : Nat} {N : Nat → Prop} {l : List UInt8} {W : World} (h : Lib.IsBuilderF 100 5 B gb (Lib.byteCells l) W) (hN : ∀ k, N k → ∀ c fz, W.heap[k]? ≠ some (.cells c 5 fz)) : tree_Text.Bld B gb N l W := by
  rcases h with ⟨h1, v, h2, h3, h4⟩ | ⟨h1, v, h2, h3, h4⟩
  · refine ⟨_, v, .inl rfl, h1, h2, h3, h4, fun k hk hn => ?_⟩
    obtain ⟨c, fz, hc⟩ := tree_Text.ownsRowF_row h3 k hk
    exact hN k hn c fz hc
  · refine ⟨_, v, .inr rfl, h1, h2, h3, h4, fun k hk hn => ?_⟩
    obtain ⟨c, fz, hc⟩ := tree_Text.ownsRowF_row h3 k hk
    exact hN k hn c fz hc
theorem tree_Text.Bld.step {B gb : Nat} {N : Nat → Prop} {l : List UInt8} {W W' : World} (h : tree_Text.Bld B gb N l W) (hg : W'.heap[gb]? = W.heap[gb]?) (hk : ∀ k c fz, W.heap[k]? = some (.cells c 5 fz) → ¬ N k → W'.heap[k]? = W.heap[k]?) : tree_Text.Bld B gb N l W' := by
  obtain ⟨p, v, hp, h1, h2, h3, h4, h5⟩ := h
  refine ⟨p, v, hp, h1, hg.trans h2, tree_Text.ownsRowF_step h3 (fun k e => ?_), h4, h5⟩
  obtain ⟨c, fz, hc⟩ := tree_Text.ownsRowF_row h3 k e
  exact hk k c fz hc (h5 k e)
/-- What the closures of Text carry on: the builder's bytes, and the texts of the nodes so far, in a row of strings. -/
def tree_Text.J (B gb gx gr gt n : Nat) (vt : Value) (N : Nat → Prop) (s : List UInt8 × List ByteArray) (W : World) : Prop :=
  tree_Text.Bld B gb N s.1 W ∧ W.heap[gx]? = some (.cells #[.slice (some ⟨gr, 0, none⟩) n n] 68 (0, 0)) ∧ W.heap[gr]? = some (.cells (s.2.map Value.string).toArray 9 (0, 0)) ∧ s.2.length = n ∧ W.heap[gt]? = some (.cells #[vt] 24 (0, 0))
def tree_Text.tok (s : List UInt8 × List ByteArray) (i : Int) : Option (List UInt8 × List ByteArray) := if 0 ≤ i ∧ i < 100 ∧ s.1.length + 4 ≤ 140737488355328 then some (s.1 ++ 32 :: tree_Text.dig i.toNat, s.2) else none
def tree_Text.kid (s : List UInt8 × List ByteArray) (k : Int) : Option (List UInt8 × List ByteArray) :=
  if 0 ≤ k ∧ k < s.2.length ∧ s.1.length + (1 + (s.2.getD k.toNat ⟨#[]⟩).size) ≤ 140737488355328 then some (s.1 ++ 32 :: (s.2.getD k.toNat ⟨#[]⟩).data.toList, s.2.set k.toNat ⟨#[]⟩) else none
theorem tree_Text.below {B gb gx gr gt n : Nat} {vt : Value} {N : Nat → Prop} {s : List UInt8 × List ByteArray} {W W' : World} (h : tree_Text.J B gb gx gr gt n vt N s W) (hb : Below W.heap.size W W') : tree_Text.J B gb gx gr gt n vt N s W' := by
  obtain ⟨h1, h2, h3, h4, h5⟩ := h
  obtain ⟨p, v, _, _, hg, _⟩ := id h1
  exact ⟨h1.step (hb.block gb (blk_lt hg)) (fun k c fz hc _ => hb.block k (blk_lt hc)), blk_below h2 hb, blk_below h3 hb, h4, blk_below h5 hb⟩
theorem tree_Text.set {B gb gx gr gt n : Nat} {vt : Value} {N : Nat → Prop} {s : List UInt8 × List ByteArray} {W : World} (hN : ¬ N gb ∧ ¬ N gx ∧ ¬ N gr ∧ ¬ N gt) (k j : Nat) (u : Value) (hk : N k) (h : tree_Text.J B gb gx gr gt n vt N s W) : tree_Text.J B gb gx gr gt n vt N s (W.setCell ⟨k, j, none⟩ u) := by
  obtain ⟨h1, h2, h3, h4, h5⟩ := h
  have far : ∀ q, ¬ N q → (W.setCell ⟨k, j, none⟩ u).heap[q]? = W.heap[q]? := fun q hq => Below.heap_setCell W ⟨k, j, none⟩ u q (fun e => by subst e; exact hq hk)
  exact ⟨h1.step (far gb hN.1) (fun q c fz _ hq => far q hq), (far gx hN.2.1).trans h2, (far gr hN.2.2.1).trans h3, h4, (far gt hN.2.2.2).trans h5⟩
theorem tree_Text.cat_cells (l m : List UInt8) : Lib.byteCells l ++ Lib.strCells ((⟨#[32]⟩ : ByteArray) ++ ⟨m.toArray⟩) = Lib.byteCells (l ++ 32 :: m) := by
  rw [Lib.strCells_eq, Lib.byteCells_append, ByteArray.data_append]
  simp
theorem tree_Text.cat_any (l : List UInt8) (c : UInt8) (m : List UInt8) : Lib.byteCells l ++ Lib.strCells ((⟨#[c]⟩ : ByteArray) ++ ⟨m.toArray⟩) = Lib.byteCells (l ++ c :: m) := by
  rw [Lib.strCells_eq, Lib.byteCells_append, ByteArray.data_append]
  simp
theorem tree_Text.cat_one (l : List UInt8) (c : UInt8) : Lib.byteCells l ++ Lib.strCells (⟨#[c]⟩ : ByteArray) = Lib.byteCells (l ++ [c]) := by
  rw [Lib.strCells_eq, Lib.byteCells_append]
theorem tree_Text.any_size (c : UInt8) (m : List UInt8) : ((⟨#[c]⟩ : ByteArray) ++ ⟨m.toArray⟩).size = 1 + m.length := by
  rw [ByteArray.size_append]
  simp [ByteArray.size]
theorem tree_Text.cat_cells2 (l : List UInt8) (x : ByteArray) : Lib.byteCells l ++ Lib.strCells ((⟨#[32]⟩ : ByteArray) ++ x) = Lib.byteCells (l ++ 32 :: x.data.toList) := by
  have := tree_Text.cat_cells l x.data.toList
  rwa [Array.toArray_toList] at this
theorem tree_Text.cat_size2 (x : ByteArray) : ((⟨#[32]⟩ : ByteArray) ++ x).size = 1 + x.data.toList.length := by
  rw [ByteArray.size_append]
  show 1 + x.data.size = 1 + x.data.toList.length
  rw [Array.length_toList]
theorem tree_Text.cat_size (m : List UInt8) : ((⟨#[32]⟩ : ByteArray) ++ ⟨m.toArray⟩).size = 1 + m.length := by
  rw [ByteArray.size_append]
  simp [ByteArray.size]
/-- Behind a write to the builder: the rest stands. -/
theorem tree_Text.wrote {B gb gx gr gt n : Nat} {vt : Value} {N : Nat → Prop} {s : List UInt8 × List ByteArray} {l : List UInt8} {W W' : World} (hx : gx ≠ gb) (hr : gr ≠ gb) (ht : gt ≠ gb) (hz : tree_parts.Stand N W) (hN : ¬ N gb)
    (hb : Lib.BuilderAtF 100 5 B gb (.pointer (some ⟨gb, 0, none⟩)) (Lib.byteCells l) W') (hk : Lib.OthersKept 5 (some gb) W W') (h2 : W.heap[gx]? = some (.cells #[.slice (some ⟨gr, 0, none⟩) n n] 68 (0, 0))) (h3 : W.heap[gr]? = some (.cells (s.2.map Value.string).toArray 9 (0, 0))) (h4 : s.2.length = n) (h5 : W.heap[gt]? = some (.cells #[vt] 24 (0, 0))) :
    tree_Text.J B gb gx gr gt n vt N (l, s.2) W' ∧ ∀ k, N k → W'.heap[k]? = W.heap[k]? := by
  have keep : ∀ k, N k → W'.heap[k]? = W.heap[k]? := fun k hn => by
    obtain ⟨c, t, h, h'⟩ := hz k hn
    rw [h]
    exact hk k _ h (fun e => by injection e with e; subst e; exact hN hn) (fun c' fz' e => by injection e with _ e _; exact h' e)
  refine ⟨⟨tree_Text.Bld.of (.inr hb) (fun k hn c fz hc => ?_), hk gx _ h2 (fun e => by injection e with e; exact hx e) (fun c fz e => by injection e with _ e _; exact absurd e (by decide)), hk gr _ h3 (fun e => by injection e with e; exact hr e) (fun c fz e => by injection e with _ e _; exact absurd e (by decide)), h4, hk gt _ h5 (fun e => by injection e with e; exact ht e) (fun c fz e => by injection e with _ e _; exact absurd e (by decide))⟩, keep⟩
  obtain ⟨c', t, h, h'⟩ := hz k hn
  rw [keep k hn, h] at hc
  injection hc with hc
  injection hc with _ e _
  exact h' e
set_option maxHeartbeats 4000000 in
set_option maxRecDepth 100000 in
theorem tree_Text.tok_step {B gb gx gr gt n : Nat} {vt : Value} {N : Nat → Prop} {w0 : World} (hB : B = w0.heap.size) (hN : ¬ N gb ∧ ¬ N gx ∧ ¬ N gr ∧ ¬ N gt) (hgx : gx ≠ gb) (hgr : gr ≠ gb) (hgt : gt ≠ gb) : tree_parts.Step (tree_Text.J B gb gx gr gt n vt N) tree_Text.tok B N 65 #[.pointer (some ⟨gb, 0, none⟩)] w0 := by
  refine ⟨fun args w => enters_ Tryd.func65 rfl rfl args w, fun s i s' W hz hs hJ hw => ?_⟩
  obtain ⟨h1, h2, h3, h4, h5⟩ := hJ
  unfold tree_Text.tok at hs
  split at hs
  case isFalse => cases hs
  rename_i hl
  cases hs
  obtain ⟨m, rfl⟩ := Int.eq_ofNat_of_zero_le hl.1
  rw [Int.toNat_natCast]
  have hm : m < 100 := by omega
  have hlen : (Lib.byteCells s.1).length + (1 + (Lib.decDigits m).length) ≤ 140737488355328 := by
    have := tree_Text.dig_len m
    rw [Lib.byteCells_length, tree_Text.dig_eq m hm]
    omega
  have hcat : (9223372036854775807 < 1 + (Lib.decDigits m).length) = False := eq_false (by omega)
  have HI := Aside0.mk h1.is
  have HL := Aside0.mk hlen
  have HM := Aside0.mk hm
  have HBW := Aside0.mk (show B ≤ W.heap.size by have := hw.size; omega)
  have HW := Aside0.mk hw
  have H2 := Aside0.mk h2
  have H3 := Aside0.mk h3
  have H4 := Aside0.mk h4
  have H5 := Aside0.mk h5
  have HZ := Aside0.mk hz
  clear hl h1 h2 h3 h4 h5 hz hw hm hlen
  show Calls Tryd.prog 65 #[.int .i64 (m : Int), .pointer (some ⟨gb, 0, none⟩)] W _
  go_enter Tryd.func65, Tryd.ntmps65
  go_wp2_with (first
    | (go_at_call 63; (refine (Tryd.strconv_Itoa_small m HM.out _).mono ?_); rintro e w1 ⟨rfl, rfl⟩)
    | (go_at_call 62; (refine (Tryd.sb_write B gb (Lib.byteCells s.1) _ _ HI.out (by rw [tree_Text.cat_size]; exact HL.out) HBW.out).mono ?_); rintro e w2 ⟨rfl, hb2, hbl2, hk2⟩; rw [tree_Text.cat_cells] at hb2; have B2 := Aside0.mk hb2; have BL2 := Aside0.mk hbl2; have K2 := Aside0.mk hk2; clear hb2 hbl2 hk2))
  refine bodyPost_end (results_none rfl _ _ _) rfl ?_
  have hb := B2.out
  rw [tree_Text.dig_eq m HM.out] at hb
  obtain ⟨hj, hk⟩ := tree_Text.wrote hgx hgr hgt HZ.out hN.1 hb K2.out H2.out H3.out H4.out H5.out
  exact ⟨rfl, hj, HW.out.trans BL2.out, hk⟩
set_option maxHeartbeats 4000000 in
set_option maxRecDepth 100000 in
theorem tree_Text.kid_step {B gb gx gr gt n : Nat} {vt : Value} {N : Nat → Prop} {w0 : World} (hB : B = w0.heap.size) (hr0 : B ≤ gr) (hN : ¬ N gb ∧ ¬ N gx ∧ ¬ N gr ∧ ¬ N gt) (hgx : gx ≠ gb) (hgr : gr ≠ gb) (hgt : gt ≠ gb) (hgxr : gx ≠ gr) (hgtr : gt ≠ gr) : tree_parts.Step (tree_Text.J B gb gx gr gt n vt N) tree_Text.kid B N 64 #[.pointer (some ⟨gb, 0, none⟩), .pointer (some ⟨gx, 0, none⟩)] w0 := by
  refine ⟨fun args w => enters_ Tryd.func64 rfl rfl args w, fun s i s' W hz hs hJ hw => ?_⟩
  obtain ⟨h1, h2, h3, h4, h5⟩ := hJ
  unfold tree_Text.kid at hs
  split at hs
  case isFalse => cases hs
  rename_i hl
  cases hs
  obtain ⟨m, rfl⟩ := Int.eq_ofNat_of_zero_le hl.1
  rw [Int.toNat_natCast] at hl ⊢
  obtain ⟨x, hx⟩ : ∃ x, x = s.2.getD m ⟨#[]⟩ := ⟨_, rfl⟩
  rw [← hx] at hl ⊢
  have hm : m < s.2.length := by omega
  have hmn : m < n := by omega
  have hxx : s.2[m] = x := by rw [hx, List.getD_eq_getElem?_getD, List.getElem?_eq_getElem hm]; rfl
  have hlen : (Lib.byteCells s.1).length + (1 + x.data.toList.length) ≤ 140737488355328 := by
    have e : x.data.toList.length = x.size := Array.length_toList
    rw [Lib.byteCells_length, e]
    omega
  have hcat : (9223372036854775807 < 1 + x.size) = False := eq_false (by omega)
  have c1 : (m : Int) < (n : Int) := by omega
  have q2 := blk_cell h2 0
  have q3 : W.cell? ⟨gr, m, none⟩ = some (.string x) := by
    rw [blk_cell h3 m]
    simp [hm, hxx]
  simp only [List.getElem?_toArray, List.getElem?_cons_zero] at q2
  have HI := Aside0.mk h1.is
  have HL := Aside0.mk hlen
  have HM := Aside0.mk hm
  have HBW := Aside0.mk (show B ≤ W.heap.size by have := hw.size; omega)
  have HW := Aside0.mk hw
  have H2 := Aside0.mk h2
  have H3 := Aside0.mk h3
  have H4 := Aside0.mk h4
  have H5 := Aside0.mk h5
  have HZ := Aside0.mk hz
  have HX := Aside0.mk hx
  clear hl h1 h2 h3 h4 h5 hz hw hm hlen hx hxx
  show Calls Tryd.prog 64 #[.int .i64 (m : Int), .pointer (some ⟨gb, 0, none⟩), .pointer (some ⟨gx, 0, none⟩)] W _
  go_enter Tryd.func64, Tryd.ntmps64
  go_wp2_with (first
    | (go_at_call 62; (refine (Tryd.sb_write B gb (Lib.byteCells s.1) _ _ HI.out (by rw [tree_Text.cat_size2]; exact HL.out) HBW.out).mono ?_); rintro e w2 ⟨rfl, hb2, hbl2, hk2⟩; rw [tree_Text.cat_cells2] at hb2; obtain ⟨⟨hj1, hj2, hj3, hj4, hj5⟩, hk⟩ := tree_Text.wrote (s := s) hgx hgr hgt HZ.out hN.1 hb2 hk2 H2.out H3.out H4.out H5.out; have p2 := blk_cell hj2 0; have p3 : w2.cell? ⟨gr, m, none⟩ = some (.string x) := (by { rw [blk_cell hj3 m]; have hm := HM.out; have hx := HX.out; rw [List.getD_eq_getElem?_getD, List.getElem?_eq_getElem hm] at hx; simp [hm, hx] }); have p3z := blk_frozen hj3 m; simp only [List.getElem?_toArray, List.getElem?_cons_zero] at p2; have J1 := Aside0.mk hj1; have J2 := Aside0.mk hj2; have J3 := Aside0.mk hj3; have J4 := Aside0.mk hj4; have J5 := Aside0.mk hj5; have KK := Aside0.mk hk; have BL2 := Aside0.mk hbl2; clear hb2 hbl2 hk2 hj1 hj2 hj3 hj4 hj5 hk))
  refine bodyPost_end (results_none rfl _ _ _) rfl ?_
  have hgN : ∀ k, N k → k ≠ gr := fun k hk e => by subst e; exact hN.2.2.1 hk
  have far : ∀ q, q ≠ gr → (w2.setCell ⟨gr, m, none⟩ (.string ⟨#[]⟩)).heap[q]? = w2.heap[q]? := fun q hq => Below.heap_setCell w2 ⟨gr, m, none⟩ _ q hq
  refine ⟨rfl, ⟨J1.out.step (far gb (fun e => hgr e.symm)) (fun k c fz hc hn => far k (fun e => ?_)), (far gx hgxr).trans J2.out, ?_, ?_, (far gt hgtr).trans J5.out⟩, (HW.out.trans BL2.out).setCell (p := ⟨gr, m, none⟩) hr0 _, fun k hk => (far k (hgN k hk)).trans (KK.out k hk)⟩
  · subst e
    rw [J3.out] at hc
    injection hc with hc
    injection hc with _ e _
    exact absurd e (by decide)
  · exact blk_put J3.out m _ (by simp [List.map_set])
  · rw [List.length_set]
    exact H4.out
theorem tree_Text.drew {B gb gx gr gt n : Nat} {vt : Value} {N : Nat → Prop} {s : List UInt8 × List ByteArray} {W : World} (h : tree_Text.J B gb gx gr gt n vt N s W) : tree_Text.J B gb gx gr gt n vt N s W.drew := h
theorem tree_Text.any {B gb gx gr gt n : Nat} {vt : Value} {N : Nat → Prop} {s : List UInt8 × List ByteArray} {W : World} (h : tree_Text.J B gb gx gr gt n vt N s W) : tree_Text.J B gb gx gr gt n vt (fun _ => False) s W := by
  obtain ⟨⟨p, v, hp, a, b, c, d, _⟩, r⟩ := h
  exact ⟨⟨p, v, hp, a, b, c, d, fun _ _ h => h⟩, r⟩
/-- Behind String(): the rest stands. -/
theorem tree_Text.read {B gb gx gr gt n : Nat} {vt : Value} {s : List UInt8 × List ByteArray} {W W' : World} (hne : gx ≠ gb ∧ gr ≠ gb ∧ gt ≠ gb) (hi : Lib.IsBuilderF 100 5 B gb (Lib.byteCells s.1) W') (hk : Lib.OthersKept 5 (some gb) W W') (h : tree_Text.J B gb gx gr gt n vt (fun _ => False) s W) : tree_Text.J B gb gx gr gt n vt (fun _ => False) s W' := by
  obtain ⟨_, h2, h3, h4, h5⟩ := h
  exact ⟨tree_Text.Bld.of hi (fun k h => h.elim), hk gx _ h2 (fun e => by injection e with e; exact hne.1 e) (fun c fz e => by injection e with _ e _; exact absurd e (by decide)), hk gr _ h3 (fun e => by injection e with e; exact hne.2.1 e) (fun c fz e => by injection e with _ e _; exact absurd e (by decide)), h4, hk gt _ h5 (fun e => by injection e with e; exact hne.2.2 e) (fun c fz e => by injection e with _ e _; exact absurd e (by decide))⟩
/-- Behind a write, with no block asked for. -/
theorem tree_Text.write {B gb gx gr gt n : Nat} {vt : Value} {s : List UInt8 × List ByteArray} {l : List UInt8} {W W' : World} (hne : gx ≠ gb ∧ gr ≠ gb ∧ gt ≠ gb)
    (hb : Lib.BuilderAtF 100 5 B gb (.pointer (some ⟨gb, 0, none⟩)) (Lib.byteCells l) W') (hk : Lib.OthersKept 5 (some gb) W W') (h : tree_Text.J B gb gx gr gt n vt (fun _ => False) s W) : tree_Text.J B gb gx gr gt n vt (fun _ => False) (l, s.2) W' := by
  obtain ⟨_, h2, h3, h4, h5⟩ := h
  exact (tree_Text.wrote hne.1 hne.2.1 hne.2.2 (fun k h => h.elim) (fun h => h) hb hk h2 h3 h4 h5).1
theorem tree_Text.info9 : (Tryd.prog.info? 9).map (fun i => (i.zero, i.size, i.bytes)) = some (some (.string ⟨#[]⟩), 1, 16) := by kernel_rfl
theorem tree_Text.made (n : Nat) : madeCells (Value.string ⟨#[]⟩).cells n = ((List.replicate n (⟨#[]⟩ : ByteArray)).map Value.string).toArray := by
  apply Array.ext
  · simp [madeCells]
  · intro i h1 h2
    simp [madeCells, Value.cells, Nat.mod_one]
theorem tree_Text.make_event {ops : Array Oper} {rest : List Oper} {o : Oper} {a : Act} {Q : Exit → Act → World → Prop} {W : World} (hgd : o.guard = none) (x y : Operand) (ho : o.op = .makeSlice 68 x y) (n : Nat) (hx : a.eval x = .int .i64 (n : Int)) (hy : a.eval y = .int .i64 (n : Int)) (hl : n * 16 ≤ 281474976710656)
    (h : ∀ g, g = W.heap.size → ∀ w1, w1.heap[g]? = some (.cells ((List.replicate n (⟨#[]⟩ : ByteArray)).map Value.string).toArray 9 (0, 0)) → Below W.heap.size W w1 → wpList Tryd.prog ops Q rest (a.put o.dst (.slice (some ⟨g, 0, none⟩) n n)) w1) : wpList Tryd.prog ops Q (o :: rest) a W := by
  obtain ⟨i0, hi, hzz⟩ := Option.map_eq_some_iff.1 tree_Text.info9
  simp only [Prod.mk.injEq] at hzz
  obtain ⟨hz0, hz1, hz2⟩ := hzz
  have hr := run_make (P := Tryd.prog) W 68 9 i0 (.string ⟨#[]⟩) Tryd.underlying68 hi hz0 .i64 .i64 (n : Int) (n : Int) (by omega) (by omega)
    (by
      have h3 : ((i0.bytes * n : Nat) : Int) ≤ 281474976710656 := by rw [hz2, Nat.mul_comm]; omega
      rwa [Int.natCast_mul] at h3) (by omega)
  simp only [Int.toNat_natCast] at hr
  rw [hz1, Nat.mul_one, tree_Text.made] at hr
  refine Kd.event_run hgd (v := .slice (some ⟨W.heap.size, 0, none⟩) n n) (w1 := W.alloc (.cells ((List.replicate n (⟨#[]⟩ : ByteArray)).map Value.string).toArray 9)) ?_ (h _ rfl _ (blk_new W _) (below_alloc (Below.refl _ _) _))
  simp [execOp, ho, hx, hy, hr]
/-- One node's text, behind those of its children. -/
def tree_Text.node (l : List S34) (i : Nat) (txt : List ByteArray) : Option (List ByteArray) :=
  if 0 ≤ (rd_T34 l (i : Int)).f0 ∧ (rd_T34 l (i : Int)).f0 < 100 then (tree_parts.run tree_Text.tok tree_Text.kid l (rd_T34 l (i : Int)).f3 (rd_T34 l (i : Int)).f1 (rd_T34 l (i : Int)).f2 (40 :: tree_Text.dig (rd_T34 l (i : Int)).f0.toNat, txt)).bind fun s => if s.1.length + 1 ≤ 140737488355328 then some (s.2.set i ⟨(s.1 ++ [41]).toArray⟩) else none else none
def tree_Text.go (l : List S34) : Nat → Nat → List ByteArray → Option (List ByteArray)
  | 0, _, txt => some txt
  | d + 1, i, txt => (tree_Text.node l i txt).bind fun t => tree_Text.go l d (i + 1) t
def tree_Text.f (k : Nat) (l0_0 : List (S34)) : Option (ByteArray × Option Er) := (tree_sound.f k l0_0).bind fun t => if t.isNone = true then (if 0 < l0_0.length ∧ l0_0.length ≤ 17592186044416 then (tree_Text.go l0_0 l0_0.length 0 (List.replicate l0_0.length ⟨#[]⟩)).bind fun txt => some (txt.getD (l0_0.length - 1) ⟨#[]⟩, none) else none) else some ((⟨#[]⟩ : ByteArray), some (t.getD (Er.no 0)))
theorem tree_Text.mono : ∀ a0 k, LeO (tree_Text.f k a0) (tree_Text.f (k + 1) a0) := by
  intro a0 k
  unfold tree_Text.f
  exact LeO.bind (tree_sound.mono a0 k) (fun _ => LeO.refl _)
set_option maxHeartbeats 16000000 in
set_option maxRecDepth 100000 in
theorem tree_Text.calls (k : Nat) (A0_0 : Option Addr) (c0_0 : Nat) (l0_0 : List (S34)) (r1 : ByteArray) (r2 : Option Er) (w : World) (hr0_0 : Kd.C k34 w A0_0 l0_0.length l0_0) (hc0_0 : l0_0.length ≤ c0_0) (h : tree_Text.f k l0_0 = some (r1, r2)) :
    Calls Tryd.prog 33 #[.agg #[.slice A0_0 l0_0.length c0_0]] w fun e w' => e = .returned (.tuple #[.string r1, errW r2]) ∧ Below w.heap.size w w' := by
  obtain ⟨t, hs, h⟩ := Option.bind_eq_some_iff.mp h
  have AS := Aside0.mk hs
  have HR := Aside0.mk hr0_0
  have HC := Aside0.mk hc0_0
  clear hs hr0_0 hc0_0
  have hue := Tryd.underlying30
  rcases t with _ | q
  · rw [if_pos (show (none : Option Er).isNone = true by rfl)] at h
    split at h
    case isFalse => cases h
    rename_i hl
    obtain ⟨txt, ht, h⟩ := Option.bind_eq_some_iff.mp h
    cases h
    have HT := Aside0.mk ht
    have HL := Aside0.mk hl
    clear ht hl
    go_enter Tryd.func33, Tryd.ntmps33
    go_wp2_with (first
      | ((with_reducible refine gate_dst (N := 1) rfl ?_); refine box_event ?hg (N := 1) ?hd (cs := #[.slice A0_0 l0_0.length c0_0]) (t := 24) ?hr ?_; (case hd => rfl); (case hg => rfl); (case hr => first | (go_simp; done) | (go_simp; rfl)); intro gt egt w2 hxt hbt; have BT := Aside0.mk hbt; have XT := Aside0.mk hxt; have GT := Aside0.mk egt; have qt := blk_cell hxt 0; simp only [List.getElem?_toArray, List.getElem?_cons_zero, List.getElem?_cons_succ] at qt; clear hbt hxt egt)
      | (go_at_call 39; (refine (tree_sound.calls k _ _ l0_0 none _ (Kd.C_below HR.out BT.out) HC.out AS.out).mono ?_); rintro e w3 ⟨rfl, hb3⟩; have B3 := Aside0.mk hb3; have q3 := blk_cell (blk_below XT.out hb3) 0; simp only [List.getElem?_toArray, List.getElem?_cons_zero, List.getElem?_cons_succ] at q3; clear hb3; try simp only [errW_none])
      | ((with_reducible refine gate_dst (N := 17) rfl ?_); refine tree_Text.make_event rfl (.tmp 16) (.tmp 16) rfl l0_0.length rfl rfl (by have := HL.out; omega) ?_; intro gr egr w4 hxr hbr; have BR := Aside0.mk hbr; have XR := Aside0.mk hxr; have GR := Aside0.mk egr; clear hbr hxr egr)
      | ((with_reducible refine gate_dst (N := 5) rfl ?_); refine box_event ?hg (N := 5) ?hd (cs := #[.slice none 0 0]) (t := 68) ?hr ?_; (case hd => rfl); (case hg => rfl); (case hr => first | (go_simp; done) | (go_simp; rfl)); intro gx egx w5 hxx hbx; have BX := Aside0.mk hbx; have XX := Aside0.mk hxx; have GX := Aside0.mk egx; have qx := blk_cell hxx 0; have qxz := blk_frozen hxx 0; have hgt5 := blk_below (blk_below (blk_below XT.out B3.out) BR.out) hbx; have n5 : gt ≠ gx := (by { have := blk_lt (blk_below (blk_below XT.out B3.out) BR.out); omega }); have qt5 := fun u => blk_cell (blk_far hgt5 (p := ⟨gx, 0, none⟩) n5 u) 0; simp only [List.getElem?_toArray, List.getElem?_cons_zero, List.getElem?_cons_succ] at qx qt5; have HG5 := Aside0.mk hgt5; have N5 := Aside0.mk n5; clear hbx hxx egx hgt5 n5))
    have szt := blk_lt XT.out
    have szr := blk_lt XR.out
    have szx := blk_lt XX.out
    have e3 := B3.out.size
    have eqT := GT.out
    have eqR := GR.out
    have eqX := GX.out
    have ntr : gt ≠ gr := by omega
    have ntx : gt ≠ gx := by omega
    have nrx : gr ≠ gx := by omega
    have hb3 := BT.out.trans (B3.out.mono BT.out.size)
    have hb4 := hb3.trans (BR.out.mono hb3.size)
    have hb5 := hb4.trans (BX.out.mono hb4.size)
    have HS := Aside0.mk (⟨by have := BT.out.size; omega, by have := hb3.size; omega, by have := hb4.size; omega⟩ : w.heap.size ≤ gt ∧ w.heap.size ≤ gr ∧ w.heap.size ≤ gx)
    have hgr5 := blk_below XR.out BX.out
    have HB5 := Aside0.mk hb5
    have HR5 := Aside0.mk hgr5
    have ND := Aside0.mk (⟨ntr, ntx, nrx⟩ : gt ≠ gr ∧ gt ≠ gx ∧ gr ≠ gx)
    clear szt szr szx e3 eqT eqR eqX ntr ntx nrx hb3 hb4 hb5 hgr5
    go_loopg [21] l0_0.length (fun kq v21 w' => ∃ (i : Nat) (tx : List ByteArray), v21 = .int .i64 (i : Int) ∧ Aside0 (i + kq = l0_0.length) ∧ Aside0 (tree_Text.go l0_0 kq i tx = some txt) ∧ Aside0 (w'.heap[gx]? = some (.cells #[.slice (some ⟨gr, 0, none⟩) l0_0.length l0_0.length] 68 (0, 0))) ∧ Aside0 (w'.heap[gr]? = some (.cells (tx.map Value.string).toArray 9 (0, 0))) ∧ Aside0 (tx.length = l0_0.length) ∧ Aside0 (w'.heap[gt]? = some (.cells #[.slice A0_0 l0_0.length c0_0] 24 (0, 0))) ∧ Aside0 (Below w.heap.size w w'))
    case atStart => exact ⟨0, List.replicate l0_0.length ⟨#[]⟩, rfl, ⟨by omega⟩, HT, ⟨blk_put XX.out 0 _ rfl⟩, ⟨blk_far HR5.out (p := ⟨gx, 0, none⟩) ND.out.2.2 _⟩, ⟨List.length_replicate⟩, ⟨blk_far HG5.out (p := ⟨gx, 0, none⟩) ND.out.2.1 _⟩, ⟨HB5.out.setCell (p := ⟨gx, 0, none⟩) HS.out.2.2 _⟩⟩
    case round =>
      clear HT HB5 HR5 HG5 XX XR XT BX BR B3 BT GX GR GT qt q3 qx qxz qt5 N5
      obtain ⟨i, tx, rfl, HI, HU, HX, HRW, HLEN, HGT, HB⟩ := hrel
      have qx0 := blk_cell HX.out 0
      have qt0 := blk_cell HGT.out 0
      simp only [List.getElem?_toArray, List.getElem?_cons_zero, List.getElem?_cons_succ] at qx0 qt0
      by_cases c0 : i < l0_0.length
      · have c1 : (i : Int) < (l0_0.length : Int) := by omega
        have c2 : decide ((i : Int) < (l0_0.length : Int)) = true := decide_eq_true c1
        obtain ⟨k1, hk1⟩ : ∃ k1, gk = k1 + 1 := ⟨gk - 1, by have := HI.out; omega⟩
        subst hk1
        have hu := HU.out
        simp only [tree_Text.go] at hu
        obtain ⟨tx2, hu1, hu2⟩ := Option.bind_eq_some_iff.mp hu
        have U2 := Aside0.mk hu2
        unfold tree_Text.node at hu1
        split at hu1
        case isFalse => cases hu1
        rename_i hkd
        obtain ⟨s2, hrun, hu3⟩ := Option.bind_eq_some_iff.mp hu1
        split at hu3
        case isFalse => cases hu3
        rename_i hsz
        have etx := Option.some.inj hu3
        have ETX := Aside0.mk etx
        have RUN := Aside0.mk hrun
        have SZ := Aside0.mk hsz
        have KD := Aside0.mk hkd
        clear hu hu1 hu2 hu3 etx hrun hsz hkd HU
        obtain ⟨ad, A3, c3, eA, x0, x1, x2, x3, _, hk3⟩ := at_T34 HR.out (i : Int) (by omega) c1
        subst eA
        have K3 := Aside0.mk hk3
        have n0 := (HB.out.cell (World.block_lt_of_cell? w _ x0)).trans x0
        have n1 := (HB.out.cell (World.block_lt_of_cell? w _ x1)).trans x1
        have n2 := (HB.out.cell (World.block_lt_of_cell? w _ x2)).trans x2
        have n3 := (HB.out.cell (World.block_lt_of_cell? w _ x3)).trans x3
        rw [Int.toNat_natCast] at n0 n1 n2 n3
        clear hk3 x0 x1 x2 x3
        obtain ⟨m, hm⟩ : ∃ m : Nat, (rd_T34 l0_0 (i : Int)).f0 = (m : Int) := Int.eq_ofNat_of_zero_le KD.out.1
        have hkd := KD.out.2
        have hrun := RUN.out
        rw [hm] at n0 hkd
        rw [hm, Int.toNat_natCast] at hrun
        have hm100 : m < 100 := by omega
        have hcat : (9223372036854775807 < 1 + (Lib.decDigits m).length) = False := eq_false (by have := tree_Text.dig_len m; rw [tree_Text.dig_eq m hm100]; omega)
        have M100 := Aside0.mk hm100
        have RUN2 := Aside0.mk hrun
        have EM := Aside0.mk hm
        clear hrun hkd hm100 hm RUN KD
        go_wp2_with (first
          | ((with_reducible refine gate_dst (N := 7) rfl ?_); refine box_event ?hg (N := 7) ?hd (cs := #[.int .i64 0, .int .i64 0, .int .i64 0, .slice none 0 0]) (t := 34) ?hr ?_; (case hd => rfl); (case hg => rfl); (case hr => first | (go_simp; done) | (go_simp; rfl)); intro gn egn w7 hxn hbn; have EN := Aside0.mk egn; have BN := Aside0.mk hbn; have XN := Aside0.mk hxn; have qn0 := blk_cell hxn 0; have qn1 := blk_cell hxn 1; have qn2 := blk_cell hxn 2; have qn3 := blk_cell hxn 3; have zn0 := blk_frozen hxn 0; have zn1 := blk_frozen hxn 1; have zn2 := blk_frozen hxn 2; have zn3 := blk_frozen hxn 3; simp only [List.getElem?_toArray, List.getElem?_cons_zero, List.getElem?_cons_succ] at qn0 qn1 qn2 qn3; clear hxn hbn egn)
          | ((with_reducible refine gate_dst (N := 8) rfl ?_); refine Hid.out ?_))
        refine Lib.hid ?_
        refine box_event ?hg (N := 8) ?hd (cs := #[.pointer none, .slice none 0 0]) (t := 100) ?hr ?_
        (case hd => rfl)
        (case hg => rfl)
        (case hr => first | (go_simp; done) | (go_simp; rfl))
        intro gb egb w8 hxb hbb
        have hn7 : _ = some (Obj.cells #[.int .i64 (m : Int), .int .i64 (rd_T34 l0_0 (i : Int)).f1, .int .i64 (rd_T34 l0_0 (i : Int)).f2, .slice A3 (rd_T34 l0_0 (i : Int)).f3.length c3] 34 (0, 0)) := blk_put (blk_put (blk_put (blk_put XN.out 0 (.int .i64 (m : Int)) rfl) 1 (.int .i64 (rd_T34 l0_0 (i : Int)).f1) rfl) 2 (.int .i64 (rd_T34 l0_0 (i : Int)).f2) rfl) 3 (.slice A3 (rd_T34 l0_0 (i : Int)).f3.length c3) rfl
        have hn8 := blk_below hn7 hbb
        have qm0 := blk_cell hn8 0
        simp only [List.getElem?_toArray, List.getElem?_cons_zero, List.getElem?_cons_succ] at qm0
        have HN8 := Aside0.mk hn8
        have LN := Aside0.mk (blk_lt hn7)
        have XB := Aside0.mk hxb
        have BB := Aside0.mk hbb
        have EB := Aside0.mk egb
        clear hn7 hn8 hxb hbb egb
        clear qn0 qn1 qn2 qn3 zn0 zn1 zn2 zn3
        have lgx := blk_lt HX.out
        have lgr := blk_lt HRW.out
        have lgt := blk_lt HGT.out
        have egn := EN.out
        have egb := EB.out
        have sn := BN.out.size
        have eqs : ((((w7.setCell ⟨gn, 0, none⟩ (.int .i64 (m : Int))).setCell ⟨gn, 1, none⟩ (.int .i64 (rd_T34 l0_0 (i : Int)).f1)).setCell ⟨gn, 2, none⟩ (.int .i64 (rd_T34 l0_0 (i : Int)).f2)).setCell ⟨gn, 3, none⟩ (.slice A3 (rd_T34 l0_0 (i : Int)).f3.length c3)).heap.size = w7.heap.size := by simp [World.setCell]
        rw [eqs] at egb
        have hk8 : ∀ k, k < wr.heap.size → w8.heap[k]? = wr.heap[k]? := fun k hk => (BB.out.block k (by rw [eqs]; omega)).trans ((Below.heap_setCell _ ⟨gn, 3, none⟩ _ k (by show k ≠ gn; omega)).trans ((Below.heap_setCell _ ⟨gn, 2, none⟩ _ k (by show k ≠ gn; omega)).trans ((Below.heap_setCell _ ⟨gn, 1, none⟩ _ k (by show k ≠ gn; omega)).trans ((Below.heap_setCell _ ⟨gn, 0, none⟩ _ k (by show k ≠ gn; omega)).trans (BN.out.block k hk)))))
        have hwr := HB.out.size
        have b7 := HB.out.trans (BN.out.mono hwr)
        have b8 := ((((b7.setCell (p := ⟨gn, 0, none⟩) (by show _ ≤ gn; omega) (.int .i64 (m : Int))).setCell (p := ⟨gn, 1, none⟩) (by show _ ≤ gn; omega) (.int .i64 (rd_T34 l0_0 (i : Int)).f1)).setCell (p := ⟨gn, 2, none⟩) (by show _ ≤ gn; omega) (.int .i64 (rd_T34 l0_0 (i : Int)).f2)).setCell (p := ⟨gn, 3, none⟩) (by show _ ≤ gn; omega) (.slice A3 (rd_T34 l0_0 (i : Int)).f3.length c3)).trans (BB.out.mono (by rw [eqs]; omega))
        have ln : gn < w7.heap.size := by have := LN.out; rw [eqs] at this; exact this
        have NE := Aside0.mk (⟨by omega, by omega, by omega⟩ : gx ≠ gb ∧ gr ≠ gb ∧ gt ≠ gb)
        have NG := Aside0.mk (show gn ≠ gb by omega)
        have J8 : Aside0 (tree_Text.J w.heap.size gb gx gr gt l0_0.length (.slice (some ad) l0_0.length c0_0) (fun _ => False) ([], tx) w8) := ⟨⟨.pointer none, .slice none 0 0, .inl rfl, by omega, XB.out, ⟨rfl, .inl ⟨rfl, rfl⟩⟩, by simp [Value.ownBlock], fun _ _ h => h⟩, (hk8 gx lgx).trans HX.out, (hk8 gr lgr).trans HRW.out, HLEN.out, (hk8 gt lgt).trans HGT.out⟩
        have B8 := Aside0.mk b8
        clear lgx lgr lgt egn egb sn eqs hk8 hwr b7 b8 ln HB HX HRW HLEN HGT EN BN XN EB BB XB LN n0 n1 n2 n3 qx0 qt0
        go_wp2_with (first
          | (go_at_call 63; (refine (Tryd.strconv_Itoa_small m M100.out _).mono ?_); rintro e w9 ⟨rfl, rfl⟩)
          | (go_at_call 62; (refine (Tryd.sb_write w.heap.size gb (Lib.byteCells []) _ _ J8.out.1.is (by rw [tree_Text.any_size, tree_Text.dig_eq m M100.out]; have := tree_Text.dig_len m; simp only [Lib.byteCells_length, List.length_nil]; omega) B8.out.size).mono ?_); rintro e w9 ⟨rfl, hb9, hbl9, hk9⟩; refine Hid.out ?_))
        refine Lib.hid ?_
        rw [tree_Text.cat_any, tree_Text.dig_eq m M100.out, List.nil_append] at hb9
        have J9 := Aside0.mk (tree_Text.write NE.out hb9 hk9 J8.out)
        have B9 := Aside0.mk (B8.out.trans hbl9)
        have hn9 := hk9 gn _ HN8.out (fun e => by injection e with e; exact NG.out e) (fun c fz e => by injection e with _ e _; exact absurd e (by decide))
        have y0 := blk_cell hn9 0
        have y1 := blk_cell hn9 1
        have y2 := blk_cell hn9 2
        have y3 := blk_cell hn9 3
        have yt := blk_cell J9.out.2.2.2.2 0
        simp only [List.getElem?_toArray, List.getElem?_cons_zero, List.getElem?_cons_succ] at y0 y1 y2 y3 yt
        clear hb9 hbl9 hk9 hn9 qm0 J8 B8 HN8
        have lt9 : gb < w9.heap.size ∧ gx < w9.heap.size ∧ gr < w9.heap.size ∧ gt < w9.heap.size := by
          obtain ⟨⟨_, _, _, _, hb, _⟩, hx, hr, _, ht⟩ := J9.out
          exact ⟨blk_lt hb, blk_lt hx, blk_lt hr, blk_lt ht⟩
        have FAR := Aside0.mk (show ∀ N : Nat → Prop, (∀ q, N q → w9.heap.size ≤ q) → ¬ N gb ∧ ¬ N gx ∧ ¬ N gr ∧ ¬ N gt from fun N hN => ⟨fun h => by have := hN _ h; omega, fun h => by have := hN _ h; omega, fun h => by have := hN _ h; omega, fun h => by have := hN _ h; omega⟩)
        have J9N := Aside0.mk (show ∀ N : Nat → Prop, (∀ q, N q → w9.heap.size ≤ q) → tree_Text.J w.heap.size gb gx gr gt l0_0.length (.slice (some ad) l0_0.length c0_0) N (40 :: tree_Text.dig m, tx) w9 from fun N hN => by
          obtain ⟨⟨p, v, hp, a, b, c, d, _⟩, r⟩ := J9.out
          refine ⟨⟨p, v, hp, a, b, c, d, fun q hq hn => ?_⟩, r⟩
          obtain ⟨_, _, hc⟩ := tree_Text.ownsRowF_row c q hq
          have := blk_lt hc
          have := hN q hn
          omega)
        clear lt9
        go_wp2_with (first
          | (go_at_call 40; refine (tree_parts.calls (J := fun N => tree_Text.J w.heap.size gb gx gr gt l0_0.length (.slice (some ad) l0_0.length c0_0) N) (tok := tree_Text.tok) (kid := tree_Text.kid) (w0 := w) rfl B9.out (fun N s W W' h hb => tree_Text.below h hb) (fun N s W k j u hN hk h => tree_Text.set (FAR.out N hN) k j u hk h) (fun N hN => tree_Text.tok_step rfl (FAR.out N hN) NE.out.1 NE.out.2.1 NE.out.2.2) (fun N hN => tree_Text.kid_step rfl HS.out.2.1 (FAR.out N hN) NE.out.1 NE.out.2.1 NE.out.2.2 (fun e => ND.out.2.2 e.symm) ND.out.1) _ _ l0_0 _ _ _ _ _ _ _ _ HR.out K3.out RUN2.out (fun N hN => J9N.out N hN)).mono ?_; rintro e w10 ⟨rfl, ⟨N10, _, hj10⟩, hb10⟩; have J10 := Aside0.mk (tree_Text.any hj10); have B10 := Aside0.mk hb10; clear hj10 hb10)
          | (go_at_call 62; (refine (Tryd.sb_write w.heap.size gb (Lib.byteCells s2.1) _ _ J10.out.1.is (by have := SZ.out; rw [Lib.byteCells_length]; exact this) B10.out.size).mono ?_); rintro e w12 ⟨rfl, hb12, hbl12, hk12⟩; refine Hid.out ?_))
        refine Lib.hid ?_
        rw [tree_Text.cat_one] at hb12
        have J12 := Aside0.mk (tree_Text.write NE.out hb12 hk12 J10.out)
        have B12 := Aside0.mk (B10.out.trans hbl12)
        have qx12 := blk_cell J12.out.2.1 0
        simp only [List.getElem?_toArray, List.getElem?_cons_zero, List.getElem?_cons_succ] at qx12
        clear hb12 hbl12 hk12 y0 y1 y2 y3 yt J9 B9 J10 B10 J9N FAR
        go_wp2
        refine start_ (n := 5) (S := fun w' => w'.cell? ⟨gx, 0, none⟩ = some (.slice (some ⟨gr, 0, none⟩) l0_0.length l0_0.length) ∧ tree_Text.J w.heap.size gb gx gr gt l0_0.length (.slice (some ad) l0_0.length c0_0) (fun _ => False) (s2.1 ++ [41], s2.2) w' ∧ Below w.heap.size w w') (ds := [4]) #[false, false, false, false, false] (by kernel_rfl) rfl rfl ⟨qx12, tree_Text.drew J12.out, B12.out.drew⟩ (fun hHeld => ?_)
        refine pure_ (i := 1) (N := some 38) (v := ?_) (a' := ?_) #[false, true, false, false, false] rfl rfl (by kernel_rfl) (fun _ _ _ h => h) (Or.inl ⟨by rfl, ?_⟩) ?_ ?_
        rotate_left
        · intro w'
          go_simp
          with_reducible rfl
        rotate_left
        · simp only [Act.put, List.setIfInBounds_toArray, List.set_cons_zero, List.set_cons_succ, i64_w, i32_w]
          rfl
        refine take_ (i := 0) (N := some 37) (v := ?_) (a' := ?_) #[true, true, false, false, false] rfl rfl (by kernel_rfl) (fun _ _ _ h => h) (Or.inl ⟨by rfl, ?_⟩) hHeld ?_ ?_
        rotate_left
        · rintro w' ⟨s0, s1, s2⟩
          go_simp
          with_reducible rfl
        rotate_left
        · simp only [Act.put, List.setIfInBounds_toArray, List.set_cons_zero, List.set_cons_succ, i64_w, i32_w]
          rfl
        refine one_ (i := 2) (N := some 39) #[true, true, true, false, false] rfl rfl (by kernel_rfl) (by decide) (fun K hK => ?_)
        obtain ⟨s0, s1, s2_⟩ := hHeld
        refine goes_ Tryd.func66 (by kernel_rfl) rfl #[.pointer (some ⟨gb, 0, none⟩)] (by rfl) rfl rfl (by simp only [List.map_toArray, List.map_cons, List.map_nil]; rfl) ?_
        refine (Tryd.Builder_String_any_k w.heap.size gb (s2.1 ++ [41]) _ s1.1.is (by have := s2_.size; omega)).mono ?_
        rintro e w13 ⟨rfl, hi13, hb13, hk13⟩
        refine ⟨_, rfl, ?_⟩
        have j13 := tree_Text.read NE.out hi13 hk13 s1
        have x13 := blk_cell j13.2.1 0
        simp only [List.getElem?_toArray, List.getElem?_cons_zero] at x13
        have b13 := s2_.trans hb13
        refine hK.out _ _ ⟨x13, j13, b13⟩ (fun hHeld => ?_)
        clear hK K
        refine norm_ (a' := ?_) ?_ ?_
        rotate_left
        · show Act.put _ (some 39) _ = _
          simp only [Act.put, List.setIfInBounds_toArray, List.set_cons_zero, List.set_cons_succ, i64_w, i32_w]
          rfl
        refine pure_ (i := 3) (N := some 40) (v := ?_) (a' := ?_) #[true, true, true, true, false] rfl rfl (by kernel_rfl) (fun _ _ _ h => h) (Or.inl ⟨by rfl, ?_⟩) ?_ ?_
        rotate_left
        · intro w'
          go_simp
          with_reducible rfl
        rotate_left
        · simp only [Act.put, List.setIfInBounds_toArray, List.set_cons_zero, List.set_cons_succ, i64_w, i32_w]
          rfl
        refine last_ (i := 4) (N := none) #[true, true, true, true, true] rfl rfl (by kernel_rfl) (by decide) (fun K hK => ?_)
        obtain ⟨s0, s1, s2_⟩ := hHeld
        obtain ⟨x14, hx14⟩ : ∃ x : ByteArray, s2.2[i]? = some x := by { have this : s2.2.length = l0_0.length := s1.2.2.2.1; have hi_ := HI.out; exact ⟨_, List.getElem?_eq_getElem (by show i < s2.2.length; omega)⟩ }
        have c15 := (blk_cell s1.2.2.1 i).trans (show _ = some (Value.string x14) by simp [hx14])
        have z15 := blk_frozen s1.2.2.1 i
        refine skip_ (w1 := ?_) (by rfl) rfl ?_ ?_
        rotate_left
        · go_simp
          rfl
        have J13 := Aside0.mk s1
        have B13 := Aside0.mk s2_
        refine hK.out _ _ ?_
        clear hK K
        refine done_ (by kernel_rfl) ?_

        go_wp2
        have ew : wrap64 ((i : Int) + 1) = ((i + 1 : Nat) : Int) := by have := HL.out; unfold wrap64; omega
        go_roundg k1
        case measure => omega
        case rel =>
          have e2 : (s2.2.set i ⟨(s2.1 ++ [41]).toArray⟩) = tx2 := ETX.out
          have hj := J13.out
          have hlen : tx2.length = l0_0.length := by rw [← e2, List.length_set]; exact hj.2.2.2.1
          refine ⟨i + 1, tx2, by rw [ew], ⟨by have := HI.out; omega⟩, U2, ⟨blk_far hj.2.1 (p := ⟨gr, i, none⟩) (fun e => ND.out.2.2 e.symm) _⟩, ⟨blk_put hj.2.2.1 i _ ?_⟩, ⟨hlen⟩, ⟨blk_far hj.2.2.2.2 (p := ⟨gr, i, none⟩) ND.out.1 _⟩, ⟨B13.out.setCell (p := ⟨gr, i, none⟩) HS.out.2.1 _⟩⟩
          rw [← e2]
          simp [List.map_set]
      · have c1 : ¬ (i : Int) < (l0_0.length : Int) := by omega
        have c2 : decide ((i : Int) < (l0_0.length : Int)) = false := decide_eq_false c1
        have hg0 : gk = 0 := by have := HI.out; omega
        subst hg0
        have etx : tx = txt := Option.some.inj HU.out
        subst etx
        have hlp := HL.out.1
        obtain ⟨n1, hn1⟩ : ∃ n1, l0_0.length = n1 + 1 := ⟨l0_0.length - 1, by omega⟩
        have ew : wrap64 ((l0_0.length : Int) - 1) = (n1 : Int) := by have := HL.out; unfold wrap64; omega
        have d1 : (n1 : Int) < (l0_0.length : Int) := by omega
        have hlt : n1 < tx.length := by have := HLEN.out; omega
        have ql : wr.cell? ⟨gr, n1, none⟩ = some (.string (tx.getD (l0_0.length - 1) ⟨#[]⟩)) := by
          rw [blk_cell HRW.out n1, show l0_0.length - 1 = n1 by omega, List.getD_eq_getElem?_getD]
          simp [hlt]
        have HN1 := Aside0.mk hn1
        clear hn1 hlp hlt c1
        go_wp2
        go_ret2
        exact ⟨rfl, HB.out⟩
  · rw [if_neg (show ¬ ((some q : Option Er).isNone = true) by simp)] at h
    cases h
    go_enter Tryd.func33, Tryd.ntmps33
    go_wp2_with (first
      | ((with_reducible refine gate_dst (N := 1) rfl ?_); refine box_event ?hg (N := 1) ?hd (cs := #[.slice A0_0 l0_0.length c0_0]) (t := 24) ?hr ?_; (case hd => rfl); (case hg => rfl); (case hr => first | (go_simp; done) | (go_simp; rfl)); intro gb eggb w2 hxgb hbgb; clear eggb; have BB := Aside0.mk hbgb; have qb := blk_cell hxgb 0; simp only [List.getElem?_toArray, List.getElem?_cons_zero, List.getElem?_cons_succ] at qb; clear hbgb)
      | (go_at_call 39; (refine (tree_sound.calls k _ _ l0_0 (some q) _ (Kd.C_below HR.out BB.out) HC.out AS.out).mono ?_); rintro e w3 ⟨rfl, hb3⟩; have B3 := Aside0.mk hb3; clear hb3; try simp only [errW_some]))
    go_ret2
    exact ⟨rfl, BB.out.trans (B3.out.mono BB.out.size)⟩

/-! ### cavillaw13_works: function 11 -/
def cavillaw13_works.f (k : Nat)  : Option (Bool) := (tree_Text.f k (([(⟨2, 0, 1, ([] : List Int)⟩ : S34), (⟨1, 0, 2, (([0] : List Int))⟩ : S34)] : List (S34)))).bind fun bt165 => (if bt165.1.toList = ([40, 49, 32, 40, 50, 32, 48, 41, 32, 49, 41] : List UInt8) then (if bt165.2.isNone = true then (some true) else (some false)) else (some false))
theorem cavillaw13_works.mono : ∀ k, LeO (cavillaw13_works.f k ) (cavillaw13_works.f (k + 1) ) := by
  intro  k
  unfold cavillaw13_works.f
  repeat' first
      | (with_reducible exact tree_Text.mono _ _)
      | (with_reducible exact LeO.refl _)
      | (with_reducible exact LeO.none _)
      | (with_reducible refine LeO.ite ?_ ?_)
      | (with_reducible refine LeO.bind ?_ (fun _ => ?_))
      | exact tree_Text.mono _ _
      | exact LeO.none _
      | refine LeO.ite ?_ ?_
      | refine LeO.bind ?_ (fun _ => ?_)
set_option maxHeartbeats 8000000 in
set_option maxRecDepth 100000 in
theorem cavillaw13_works.calls (k : Nat)  (r : Bool) (w : World) (h : cavillaw13_works.f k  = some r) :
    Calls Tryd.prog 11 #[] w fun e w' => e = .returned (.bool r) ∧ Below w.heap.size w w' := by
  have hu34 := Tryd.underlying34
  have hu24 := Tryd.underlying24
  have hu30 := Tryd.underlying30
  have hu74 := Tryd.underlying74
  have HB := Aside0.mk (Below.refl w.heap.size w)
  have H : ((tree_Text.f k (([(⟨2, 0, 1, ([] : List Int)⟩ : S34), (⟨1, 0, 2, (([0] : List Int))⟩ : S34)] : List (S34)))).bind fun bt165 => (if bt165.1.toList = ([40, 49, 32, 40, 50, 32, 48, 41, 32, 49, 41] : List UInt8) then (if bt165.2.isNone = true then (some true) else (some false)) else (some false))) = some r := h
  clear h
  obtain ⟨y159, hy159⟩ : ∃ y_ : List Int, y_ = (([0] : List Int)) := ⟨_, rfl⟩
  replace H : ((tree_Text.f k (([(⟨2, 0, 1, ([] : List Int)⟩ : S34), (⟨1, 0, 2, y159⟩ : S34)] : List (S34)))).bind fun bt165 => (if bt165.1.toList = ([40, 49, 32, 40, 50, 32, 48, 41, 32, 49, 41] : List UInt8) then (if bt165.2.isNone = true then (some true) else (some false)) else (some false))) = some r := by first | (rw [hy159]; with_reducible exact H) | (have H2_ := (Option.bind_some _ _).symm.trans H; rw [hy159]; with_reducible exact H2_) | (have H2_ := (Option.bind_some _ _).symm.trans H; with_reducible exact H2_) | with_reducible exact H | (rw [hy159]; exact H) | exact H
  have Ny159 := Aside0.mk hy159
  clear hy159
  obtain ⟨y162, hy162⟩ : ∃ y_ : List (S34), y_ = (([(⟨2, 0, 1, ([] : List Int)⟩ : S34), (⟨1, 0, 2, y159⟩ : S34)] : List (S34))) := ⟨_, rfl⟩
  replace H : ((tree_Text.f k y162).bind fun bt165 => (if bt165.1.toList = ([40, 49, 32, 40, 50, 32, 48, 41, 32, 49, 41] : List UInt8) then (if bt165.2.isNone = true then (some true) else (some false)) else (some false))) = some r := by first | (rw [hy162]; with_reducible exact H) | (have H2_ := (Option.bind_some _ _).symm.trans H; rw [hy162]; with_reducible exact H2_) | (have H2_ := (Option.bind_some _ _).symm.trans H; with_reducible exact H2_) | with_reducible exact H | (rw [hy162]; exact H) | exact H
  have Ny162 := Aside0.mk hy162
  clear hy162
  replace H := Option.bind_eq_some_iff.mp H
  obtain ⟨⟨t165, t166⟩, A10, H⟩ := H
  replace H : (if t165.toList = ([40, 49, 32, 40, 50, 32, 48, 41, 32, 49, 41] : List UInt8) then (if t166.isNone = true then (some true) else (some false)) else (some false)) = some r := H
  have A1 := Aside0.mk A10
  clear A10
  by_cases c2 : t165.toList = ([40, 49, 32, 40, 50, 32, 48, 41, 32, 49, 41] : List UInt8)
  · rw [if_pos c2] at H
    have c2b0 : (t165.toList == ([40, 49, 32, 40, 50, 32, 48, 41, 32, 49, 41] : List UInt8)) = true := beq_iff_eq.mpr c2
    have c2b1 : (t165.toList != ([40, 49, 32, 40, 50, 32, 48, 41, 32, 49, 41] : List UInt8)) = false := bne_eq_false_iff_eq.mpr c2
    clear c2
    rcases t166 with _ | q167
    · have H1 : (some true) = some r := by rw [if_pos (show (none : Option Er).isNone = true by rfl)] at H; exact H
      clear H
      have H := H1
      clear H1
      try simp only [errW_none, errW_some, erT_no, erV_no, erT_at, erV_at]
      obtain rfl := Option.some.inj H
      go_enter Tryd.func11, Tryd.ntmps11
      go_wp2_with (first | ((with_reducible refine gate_dst (N := 5) rfl ?_); refine Kd.R_lit (Kd.int .i64) _ 3 ?hg (N := 5) ?hd (xs := ([0] : List Int)) (inner := [.int .i64 0]) (ok := fun _ => True) (okp := fun _ => True) ?hr ?hp (fun _ hk => hk) trivial (Below.refl _ _) (Nat.le_refl _) (by simp) ?_; (case hd => rfl); (case hg => rfl); (case hr => first | (go_simp; done) | (go_simp; rfl)); (case hp => exact (Reps.one (show Kd.M (Kd.int .i64) _ _ _ 0 [.int .i64 0] from rfl) (Reps.none _ _))); intro v160 w3 ho4 hb hg_ hnew_; clear hg_ hnew_; (first | rw [← Ny159.out] at ho4 | (simp only [Int.reduceToNat] at ho4; rw [← Ny159.out] at ho4)); have n0_ := Aside0.mk (Kd.R_lower ho4 (below_size (by repeat (first | (with_reducible first | exact HB.out | apply below_alloc | apply pw_below_drewN | apply below_drew1) | exact HB.out)))); have n1_ := Aside0.mk (below_step (by repeat (first | (with_reducible first | exact HB.out | apply below_alloc | apply pw_below_drewN | apply below_drew1) | exact HB.out)) hb); clear HB; have HO161 := n0_; have HB := n1_; clear n0_ n1_; clear hb ho4; obtain ⟨Ao5, co5, eo5⟩ := Kd.R_slice HO161.out; subst eo5) | ((with_reducible refine gate_dst (N := 7) rfl ?_); refine Kd.N_lit k34 _ 34 ?hg (N' := 7) ?hd (xs := ([(⟨2, 0, 1, ([] : List Int)⟩ : S34), (⟨1, 0, 2, y159⟩ : S34)] : List (S34))) (inner := [.int .i64 2, .int .i64 0, .int .i64 1, .slice none 0 0, .int .i64 1, .int .i64 0, .int .i64 2, .slice Ao5 y159.length co5]) (ok := (fun _ => True)) (okp := (fun _ => True)) ?hr ?hp (fun _ hk => hk) ((show ∀ k_, w3.heap.size ≤ k_ → (fun _ => True) k_ from fun k_ hk => trivial) _ (Nat.le_refl _)) (Below.refl _ _) (Nat.le_refl _) (by simp) ?_; (case hd => rfl); (case hg => rfl); (case hr => first | (go_simp; done) | (go_simp; rfl)); (case hp => exact (Reps.c4 (show Kd.FK k34 _ _ (⟨2, 0, 1, ([] : List Int)⟩ : S34) [.int .i64 2, .int .i64 0, .int .i64 1, .slice none 0 0] from (k34_mkF _ _ (⟨2, 0, 1, ([] : List Int)⟩ : S34) (Nat.le_refl _) (Kd.F_nil _ _ _))) (Reps.c4 (show Kd.FK k34 _ _ (⟨1, 0, 2, y159⟩ : S34) [.int .i64 1, .int .i64 0, .int .i64 2, .slice Ao5 y159.length co5] from (k34_mkF _ _ (⟨1, 0, 2, y159⟩ : S34) (Kd.R_reads' (Kd.R_mono (ok' := (fun _ => True)) (HO161.out) (fun k_ hk => trivial))).2.1 (Kd.R_F (Kd.R_mono (ok' := (fun _ => True)) (HO161.out) (fun k_ hk => trivial))))) (Reps.none _ _)))); intro v163 w6 ho7 hb hg_ hnew_; clear hg_ hnew_; (first | rw [← Ny162.out] at ho7 | (simp only [Int.reduceToNat] at ho7; rw [← Ny162.out] at ho7)); have n0_ := Aside0.mk (Kd.N_lower ho7 (below_size (by repeat (first | (with_reducible first | exact HB.out | apply below_alloc | apply pw_below_drewN | apply below_drew1) | exact HB.out)))); have n1_ := Aside0.mk (below_step (by repeat (first | (with_reducible first | exact HB.out | apply below_alloc | apply pw_below_drewN | apply below_drew1) | exact HB.out)) hb); clear HB; clear HO161; have HO164 := n0_; have HB := n1_; clear n0_ n1_; clear hb ho7; obtain ⟨Ao8, co8, eo8⟩ := Kd.N_slice HO164.out; subst eo8) | ((with_reducible refine gate_callee (f := 33) rfl ?_); refine goesL_ (some 9) rfl rfl Tryd.func33 (by kernel_rfl) rfl #[.agg #[.slice Ao8 y162.length co8]] rfl (by (try simp only [List.map_toArray, List.map_cons, List.map_nil]); first | done | rfl | (simp only [List.length_drop, List.length_take]; rfl)) ?_; (with_reducible refine (tree_Text.calls k _ _ y162 t165 none _ ?side1 ?side2 A1.out).mono ?_); (case side1 => repeat (first | exact (Kd.N_reads' HO164.out).2.2 | (with_reducible refine Kd.C_alloc ?_ _) | (with_reducible refine Kd.C_drewN ?_ _) | (with_reducible refine Kd.C_drew ?_))); (case side2 => exact (Kd.N_reads' HO164.out).2.1); rintro e w9 ⟨rfl, hb⟩; refine ⟨_, rfl, ?_⟩; have n0_ := Aside0.mk (Kd.N_below (by (with_reducible repeat (first | apply Kd.N_alloc | apply Kd.N_drewN | apply Kd.N_drew)); exact HO164.out) hb); have n1_ := Aside0.mk (below_step (by repeat (first | (with_reducible first | exact HB.out | apply below_alloc | apply pw_below_drewN | apply below_drew1) | exact HB.out)) hb); clear HO164; clear HB; have HO164 := n0_; have HB := n1_; clear n0_ n1_; (try clear hb); (try clear hb2); (try clear hk); (try clear hi); (try simp only [errW_none, errW_some, erT_no, erV_no, erT_at, erV_at])))
      go_ret
      exact ⟨by first | rfl | (simp [errW_none, errW_some, erT_no, erV_no, erT_at, erV_at] <;> rfl) | (simp [*, errW_none, errW_some, erT_no, erV_no, erT_at, erV_at] <;> rfl), by repeat (first | (with_reducible first | exact HB.out | apply below_alloc | apply pw_below_drewN | apply below_drew1) | exact HB.out)⟩
    · have H1 : (some false) = some r := by rw [if_neg (show ¬ (some q167).isNone = true by simp)] at H; exact H
      clear H
      have H := H1
      clear H1
      try simp only [errW_none, errW_some, erT_no, erV_no, erT_at, erV_at]
      obtain rfl := Option.some.inj H
      go_enter Tryd.func11, Tryd.ntmps11
      go_wp2_with (first | ((with_reducible refine gate_dst (N := 5) rfl ?_); refine Kd.R_lit (Kd.int .i64) _ 3 ?hg (N := 5) ?hd (xs := ([0] : List Int)) (inner := [.int .i64 0]) (ok := fun _ => True) (okp := fun _ => True) ?hr ?hp (fun _ hk => hk) trivial (Below.refl _ _) (Nat.le_refl _) (by simp) ?_; (case hd => rfl); (case hg => rfl); (case hr => first | (go_simp; done) | (go_simp; rfl)); (case hp => exact (Reps.one (show Kd.M (Kd.int .i64) _ _ _ 0 [.int .i64 0] from rfl) (Reps.none _ _))); intro v160 w10 ho11 hb hg_ hnew_; clear hg_ hnew_; (first | rw [← Ny159.out] at ho11 | (simp only [Int.reduceToNat] at ho11; rw [← Ny159.out] at ho11)); have n0_ := Aside0.mk (Kd.R_lower ho11 (below_size (by repeat (first | (with_reducible first | exact HB.out | apply below_alloc | apply pw_below_drewN | apply below_drew1) | exact HB.out)))); have n1_ := Aside0.mk (below_step (by repeat (first | (with_reducible first | exact HB.out | apply below_alloc | apply pw_below_drewN | apply below_drew1) | exact HB.out)) hb); clear HB; have HO161 := n0_; have HB := n1_; clear n0_ n1_; clear hb ho11; obtain ⟨Ao12, co12, eo12⟩ := Kd.R_slice HO161.out; subst eo12) | ((with_reducible refine gate_dst (N := 7) rfl ?_); refine Kd.N_lit k34 _ 34 ?hg (N' := 7) ?hd (xs := ([(⟨2, 0, 1, ([] : List Int)⟩ : S34), (⟨1, 0, 2, y159⟩ : S34)] : List (S34))) (inner := [.int .i64 2, .int .i64 0, .int .i64 1, .slice none 0 0, .int .i64 1, .int .i64 0, .int .i64 2, .slice Ao12 y159.length co12]) (ok := (fun _ => True)) (okp := (fun _ => True)) ?hr ?hp (fun _ hk => hk) ((show ∀ k_, w10.heap.size ≤ k_ → (fun _ => True) k_ from fun k_ hk => trivial) _ (Nat.le_refl _)) (Below.refl _ _) (Nat.le_refl _) (by simp) ?_; (case hd => rfl); (case hg => rfl); (case hr => first | (go_simp; done) | (go_simp; rfl)); (case hp => exact (Reps.c4 (show Kd.FK k34 _ _ (⟨2, 0, 1, ([] : List Int)⟩ : S34) [.int .i64 2, .int .i64 0, .int .i64 1, .slice none 0 0] from (k34_mkF _ _ (⟨2, 0, 1, ([] : List Int)⟩ : S34) (Nat.le_refl _) (Kd.F_nil _ _ _))) (Reps.c4 (show Kd.FK k34 _ _ (⟨1, 0, 2, y159⟩ : S34) [.int .i64 1, .int .i64 0, .int .i64 2, .slice Ao12 y159.length co12] from (k34_mkF _ _ (⟨1, 0, 2, y159⟩ : S34) (Kd.R_reads' (Kd.R_mono (ok' := (fun _ => True)) (HO161.out) (fun k_ hk => trivial))).2.1 (Kd.R_F (Kd.R_mono (ok' := (fun _ => True)) (HO161.out) (fun k_ hk => trivial))))) (Reps.none _ _)))); intro v163 w13 ho14 hb hg_ hnew_; clear hg_ hnew_; (first | rw [← Ny162.out] at ho14 | (simp only [Int.reduceToNat] at ho14; rw [← Ny162.out] at ho14)); have n0_ := Aside0.mk (Kd.N_lower ho14 (below_size (by repeat (first | (with_reducible first | exact HB.out | apply below_alloc | apply pw_below_drewN | apply below_drew1) | exact HB.out)))); have n1_ := Aside0.mk (below_step (by repeat (first | (with_reducible first | exact HB.out | apply below_alloc | apply pw_below_drewN | apply below_drew1) | exact HB.out)) hb); clear HB; clear HO161; have HO164 := n0_; have HB := n1_; clear n0_ n1_; clear hb ho14; obtain ⟨Ao15, co15, eo15⟩ := Kd.N_slice HO164.out; subst eo15) | ((with_reducible refine gate_callee (f := 33) rfl ?_); refine goesL_ (some 9) rfl rfl Tryd.func33 (by kernel_rfl) rfl #[.agg #[.slice Ao15 y162.length co15]] rfl (by (try simp only [List.map_toArray, List.map_cons, List.map_nil]); first | done | rfl | (simp only [List.length_drop, List.length_take]; rfl)) ?_; (with_reducible refine (tree_Text.calls k _ _ y162 t165 (some q167) _ ?side1 ?side2 A1.out).mono ?_); (case side1 => repeat (first | exact (Kd.N_reads' HO164.out).2.2 | (with_reducible refine Kd.C_alloc ?_ _) | (with_reducible refine Kd.C_drewN ?_ _) | (with_reducible refine Kd.C_drew ?_))); (case side2 => exact (Kd.N_reads' HO164.out).2.1); rintro e w16 ⟨rfl, hb⟩; refine ⟨_, rfl, ?_⟩; have n0_ := Aside0.mk (Kd.N_below (by (with_reducible repeat (first | apply Kd.N_alloc | apply Kd.N_drewN | apply Kd.N_drew)); exact HO164.out) hb); have n1_ := Aside0.mk (below_step (by repeat (first | (with_reducible first | exact HB.out | apply below_alloc | apply pw_below_drewN | apply below_drew1) | exact HB.out)) hb); clear HO164; clear HB; have HO164 := n0_; have HB := n1_; clear n0_ n1_; (try clear hb); (try clear hb2); (try clear hk); (try clear hi); (try simp only [errW_none, errW_some, erT_no, erV_no, erT_at, erV_at])))
      go_ret
      exact ⟨by first | rfl | (simp [errW_none, errW_some, erT_no, erV_no, erT_at, erV_at] <;> rfl) | (simp [*, errW_none, errW_some, erT_no, erV_no, erT_at, erV_at] <;> rfl), by repeat (first | (with_reducible first | exact HB.out | apply below_alloc | apply pw_below_drewN | apply below_drew1) | exact HB.out)⟩
  · rw [if_neg c2] at H
    have c2b0 : (t165.toList == ([40, 49, 32, 40, 50, 32, 48, 41, 32, 49, 41] : List UInt8)) = false := beq_eq_false_iff_ne.mpr c2
    have c2b1 : (t165.toList != ([40, 49, 32, 40, 50, 32, 48, 41, 32, 49, 41] : List UInt8)) = true := bne_iff_ne.mpr c2
    obtain rfl := Option.some.inj H
    go_enter Tryd.func11, Tryd.ntmps11
    go_wp2_with (first | ((with_reducible refine gate_dst (N := 5) rfl ?_); refine Kd.R_lit (Kd.int .i64) _ 3 ?hg (N := 5) ?hd (xs := ([0] : List Int)) (inner := [.int .i64 0]) (ok := fun _ => True) (okp := fun _ => True) ?hr ?hp (fun _ hk => hk) trivial (Below.refl _ _) (Nat.le_refl _) (by simp) ?_; (case hd => rfl); (case hg => rfl); (case hr => first | (go_simp; done) | (go_simp; rfl)); (case hp => exact (Reps.one (show Kd.M (Kd.int .i64) _ _ _ 0 [.int .i64 0] from rfl) (Reps.none _ _))); intro v160 w17 ho18 hb hg_ hnew_; clear hg_ hnew_; (first | rw [← Ny159.out] at ho18 | (simp only [Int.reduceToNat] at ho18; rw [← Ny159.out] at ho18)); have n0_ := Aside0.mk (Kd.R_lower ho18 (below_size (by repeat (first | (with_reducible first | exact HB.out | apply below_alloc | apply pw_below_drewN | apply below_drew1) | exact HB.out)))); have n1_ := Aside0.mk (below_step (by repeat (first | (with_reducible first | exact HB.out | apply below_alloc | apply pw_below_drewN | apply below_drew1) | exact HB.out)) hb); clear HB; have HO161 := n0_; have HB := n1_; clear n0_ n1_; clear hb ho18; obtain ⟨Ao19, co19, eo19⟩ := Kd.R_slice HO161.out; subst eo19) | ((with_reducible refine gate_dst (N := 7) rfl ?_); refine Kd.N_lit k34 _ 34 ?hg (N' := 7) ?hd (xs := ([(⟨2, 0, 1, ([] : List Int)⟩ : S34), (⟨1, 0, 2, y159⟩ : S34)] : List (S34))) (inner := [.int .i64 2, .int .i64 0, .int .i64 1, .slice none 0 0, .int .i64 1, .int .i64 0, .int .i64 2, .slice Ao19 y159.length co19]) (ok := (fun _ => True)) (okp := (fun _ => True)) ?hr ?hp (fun _ hk => hk) ((show ∀ k_, w17.heap.size ≤ k_ → (fun _ => True) k_ from fun k_ hk => trivial) _ (Nat.le_refl _)) (Below.refl _ _) (Nat.le_refl _) (by simp) ?_; (case hd => rfl); (case hg => rfl); (case hr => first | (go_simp; done) | (go_simp; rfl)); (case hp => exact (Reps.c4 (show Kd.FK k34 _ _ (⟨2, 0, 1, ([] : List Int)⟩ : S34) [.int .i64 2, .int .i64 0, .int .i64 1, .slice none 0 0] from (k34_mkF _ _ (⟨2, 0, 1, ([] : List Int)⟩ : S34) (Nat.le_refl _) (Kd.F_nil _ _ _))) (Reps.c4 (show Kd.FK k34 _ _ (⟨1, 0, 2, y159⟩ : S34) [.int .i64 1, .int .i64 0, .int .i64 2, .slice Ao19 y159.length co19] from (k34_mkF _ _ (⟨1, 0, 2, y159⟩ : S34) (Kd.R_reads' (Kd.R_mono (ok' := (fun _ => True)) (HO161.out) (fun k_ hk => trivial))).2.1 (Kd.R_F (Kd.R_mono (ok' := (fun _ => True)) (HO161.out) (fun k_ hk => trivial))))) (Reps.none _ _)))); intro v163 w20 ho21 hb hg_ hnew_; clear hg_ hnew_; (first | rw [← Ny162.out] at ho21 | (simp only [Int.reduceToNat] at ho21; rw [← Ny162.out] at ho21)); have n0_ := Aside0.mk (Kd.N_lower ho21 (below_size (by repeat (first | (with_reducible first | exact HB.out | apply below_alloc | apply pw_below_drewN | apply below_drew1) | exact HB.out)))); have n1_ := Aside0.mk (below_step (by repeat (first | (with_reducible first | exact HB.out | apply below_alloc | apply pw_below_drewN | apply below_drew1) | exact HB.out)) hb); clear HB; clear HO161; have HO164 := n0_; have HB := n1_; clear n0_ n1_; clear hb ho21; obtain ⟨Ao22, co22, eo22⟩ := Kd.N_slice HO164.out; subst eo22) | ((with_reducible refine gate_callee (f := 33) rfl ?_); refine goesL_ (some 9) rfl rfl Tryd.func33 (by kernel_rfl) rfl #[.agg #[.slice Ao22 y162.length co22]] rfl (by (try simp only [List.map_toArray, List.map_cons, List.map_nil]); first | done | rfl | (simp only [List.length_drop, List.length_take]; rfl)) ?_; (with_reducible refine (tree_Text.calls k _ _ y162 t165 t166 _ ?side1 ?side2 A1.out).mono ?_); (case side1 => repeat (first | exact (Kd.N_reads' HO164.out).2.2 | (with_reducible refine Kd.C_alloc ?_ _) | (with_reducible refine Kd.C_drewN ?_ _) | (with_reducible refine Kd.C_drew ?_))); (case side2 => exact (Kd.N_reads' HO164.out).2.1); rintro e w23 ⟨rfl, hb⟩; refine ⟨_, rfl, ?_⟩; have n0_ := Aside0.mk (Kd.N_below (by (with_reducible repeat (first | apply Kd.N_alloc | apply Kd.N_drewN | apply Kd.N_drew)); exact HO164.out) hb); have n1_ := Aside0.mk (below_step (by repeat (first | (with_reducible first | exact HB.out | apply below_alloc | apply pw_below_drewN | apply below_drew1) | exact HB.out)) hb); clear HO164; clear HB; have HO164 := n0_; have HB := n1_; clear n0_ n1_; (try clear hb); (try clear hb2); (try clear hk); (try clear hi); (try simp only [errW_none, errW_some, erT_no, erV_no, erT_at, erV_at])))
    go_ret
    exact ⟨by first | rfl | (simp [errW_none, errW_some, erT_no, erV_no, erT_at, erV_at] <;> rfl) | (simp [*, errW_none, errW_some, erT_no, erV_no, erT_at, erV_at] <;> rfl), by repeat (first | (with_reducible first | exact HB.out | apply below_alloc | apply pw_below_drewN | apply below_drew1) | exact HB.out)⟩

-- NOT PRINTED: function 76 (reflectlite_TypeOf)

-- NOT PRINTED: function 77 (errors_is)

/-! ### errors_Is: function 48 -/
def errors_Is.f (a0 a1 : Option Er) : Option Bool := match a0, a1 with
  | none, some (.no _) => some false
  | some (.no c), some (.no d) => some (decide (c = d))
  | some (.at_ _ (.no c)), some (.no d) => some (decide (c = d))
  | _, _ => none
theorem errors_Is.isTypeOf (v : Value) (w : World) : (Extern.ReflectliteType.typeOf #[.iface 74 v]).run Tryd.prog w = .ok (.iface 134 (.agg #[.pointer (some ⟨5, 74, none⟩)])) w := by kernel_rfl
theorem errors_Is.isComparable (w : World) : (callFunc 147 #[.agg #[.pointer (some ⟨5, 74, none⟩)]]).run Tryd.prog w = .ok (.value (.bool true)) w := by
  rw [@run_callFunc_extern Tryd.prog 147 _ (Extern.ReflectliteType.method fun t => do Extern.Rtype.noPackHeld "Comparable" t; pure (.bool (← typeInfo t).comparable)) Tryd.func147 (by kernel_rfl) (by kernel_rfl) (by kernel_rfl) (by kernel_rfl)]
  have h : ((Extern.ReflectliteType.method fun t => do Extern.Rtype.noPackHeld "Comparable" t; pure (.bool (← typeInfo t).comparable)) #[.agg #[.pointer (some ⟨5, 74, none⟩)]]).run Tryd.prog w = .ok (.bool true) w := by kernel_rfl
  rw [h]; rfl
theorem errors_Is.isTypeOfE (v : Value) (w : World) : (callFunc 76 #[.iface 74 v]).run Tryd.prog w = .ok (.value (.iface 134 (.agg #[.pointer (some ⟨5, 74, none⟩)]))) w := by
  rw [@run_callFunc_extern Tryd.prog 76 _ Extern.ReflectliteType.typeOf Tryd.func76 (by kernel_rfl) (by kernel_rfl) (by kernel_rfl) (by kernel_rfl), errors_Is.isTypeOf]; rfl
theorem errors_Is.isMethodComparable (v : Value) (w : World) : (Go.method 299 134 v "Comparable").run Tryd.prog w = .ok (147, v) w := by kernel_rfl
theorem errors_Is.noIsE (v : Value) (xT : TypeId) (w : World) : (Instr.typeAssert (.iface 74 v) xT 136 true).run Tryd.prog w = .ok (.tuple #[.nilIface, .bool false]) w := Go.run_typeAssert_lacksB Tryd.underlying136 (by kernel_rfl) (by kernel_rfl) v xT w
theorem errors_Is.noUnwrapE (v : Value) (xT : TypeId) (w : World) : (Instr.typeAssert (.iface 74 v) xT 139 true).run Tryd.prog w = .ok (.tuple #[.nilIface, .bool false]) w := Go.run_typeAssert_lacksB Tryd.underlying139 (by kernel_rfl) (by kernel_rfl) v xT w
theorem errors_Is.noUnwrapsE (v : Value) (xT : TypeId) (w : World) : (Instr.typeAssert (.iface 74 v) xT 141 true).run Tryd.prog w = .ok (.tuple #[.nilIface, .bool false]) w := Go.run_typeAssert_lacksB Tryd.underlying141 (by kernel_rfl) (by kernel_rfl) v xT w
theorem errors_Is.noIsA (v : Value) (xT : TypeId) (w : World) : (Instr.typeAssert (.iface 79 v) xT 136 true).run Tryd.prog w = .ok (.tuple #[.nilIface, .bool false]) w := Go.run_typeAssert_lacksB Tryd.underlying136 (by kernel_rfl) (by kernel_rfl) v xT w
theorem errors_Is.hasUnwrapA (v : Value) (xT : TypeId) (w : World) : (Instr.typeAssert (.iface 79 v) xT 139 true).run Tryd.prog w = .ok (.tuple #[.iface 79 v, .bool true]) w := Go.run_typeAssert_hasB Tryd.underlying139 (by kernel_rfl) v xT w
theorem errors_Is.methodUnwrap (v : Value) (w : World) : (Go.method 299 79 v "Unwrap").run Tryd.prog w = .ok (140, v) w := by kernel_rfl

theorem errors_Is.isComp : (Tryd.prog.info? 74).map (·.comparable) = some true := by kernel_rfl
theorem errors_Is.calls_no (c d : Int) (w : World) : Calls Tryd.prog 48 #[.iface 74 (.int .i64 c), .iface 74 (.int .i64 d)] w fun e w' => e = .returned (.bool (decide (c = d))) ∧ w' = w := by
  have tT := errors_Is.isTypeOfE
  have cT := errors_Is.isComparable
  have mR := errors_Is.isMethodComparable
  have nE := errors_Is.noIsE
  have uE := errors_Is.noUnwrapE
  have vE := errors_Is.noUnwrapsE
  have heq : ∀ (c d : Int) W, (binOp .eql 30 (.iface 74 (.int .i64 c)) (.iface 74 (.int .i64 d))).run Tryd.prog W = .ok (.bool (decide (c = d))) W := by
    intro c d W
    rw [Go.Lib.run_eql_iface_int W c d Tryd.underlying30 errors_Is.isComp Tryd.underlying74]; rfl
  by_cases hcd : c = d
  · have h1 := heq c d
    rw [decide_eq_true hcd] at h1
    rw [decide_eq_true hcd]
    go_enter Tryd.func48, Tryd.ntmps48
    go_wp2
    refine wp_loop_rounds 1 ?_
    rw [rounds_succ]
    go_wp2
    go_ret
    exact ⟨rfl, rfl⟩
  · have h1 := heq c d
    rw [decide_eq_false hcd] at h1
    rw [decide_eq_false hcd]
    go_enter Tryd.func48, Tryd.ntmps48
    go_wp2
    refine wp_loop_rounds 1 ?_
    rw [rounds_succ]
    go_wp2
    go_ret
    exact ⟨rfl, rfl⟩
theorem errors_Is.unwraps (off : Int) (v : Value) (w : World) : Calls Tryd.prog 140 #[.agg #[.int .i64 off, v]] w fun e w' => e = .returned v ∧ Below w.heap.size w w' := by
  go_enter Tryd.func140, Tryd.ntmps140
  go_wp2
  go_ret
  exact ⟨rfl, (Below.refl _ _).alloc (Nat.le_refl _) _⟩
theorem errors_Is.calls_nil (d : Int) (w : World) : Calls Tryd.prog 48 #[.nilIface, .iface 74 (.int .i64 d)] w fun e w' => e = .returned (.bool false) ∧ w' = w := by
  have hn := fun W => run_eql_iface_nil_left (P := Tryd.prog) W 74 (.int .i64 d) Tryd.underlying30
  go_enter Tryd.func48, Tryd.ntmps48
  go_wp2
  go_ret
  exact ⟨rfl, rfl⟩
theorem errors_Is.calls_at (o c d : Int) (w : World) : Calls Tryd.prog 48 #[.iface 79 (.agg #[.int .i64 o, .iface 74 (.int .i64 c)]), .iface 74 (.int .i64 d)] w fun e w' => e = .returned (.bool (decide (c = d))) ∧ Below w.heap.size w w' := by
  have tT := errors_Is.isTypeOfE
  have cT := errors_Is.isComparable
  have mR := errors_Is.isMethodComparable
  have nE := errors_Is.noIsE
  have uE := errors_Is.noUnwrapE
  have vE := errors_Is.noUnwrapsE
  have heq : ∀ (c d : Int) W, (binOp .eql 30 (.iface 74 (.int .i64 c)) (.iface 74 (.int .i64 d))).run Tryd.prog W = .ok (.bool (decide (c = d))) W := by
    intro c d W
    rw [Go.Lib.run_eql_iface_int W c d Tryd.underlying30 errors_Is.isComp Tryd.underlying74]; rfl
  have nA := errors_Is.noIsA
  have hA := errors_Is.hasUnwrapA
  have mU := errors_Is.methodUnwrap
  have hty := fun v W => run_eql_iface_types (P := Tryd.prog) 79 74 v (.int .i64 d) Tryd.underlying30 (by decide) W
  by_cases hcd : c = d
  · have h1 := heq c d
    rw [decide_eq_true hcd] at h1
    rw [decide_eq_true hcd]
    go_enter Tryd.func48, Tryd.ntmps48
    go_wp2
    refine wp_loop_rounds 2 ?_
    rw [rounds_succ]
    go_wp2_with (first | (go_at_call 140; refine (errors_Is.unwraps _ _ _).mono ?_; rintro _ w1 ⟨rfl, hb⟩))
    rw [rounds_succ]
    go_wp2
    go_ret
    exact ⟨rfl, hb⟩
  · have h1 := heq c d
    rw [decide_eq_false hcd] at h1
    rw [decide_eq_false hcd]
    go_enter Tryd.func48, Tryd.ntmps48
    go_wp2
    refine wp_loop_rounds 2 ?_
    rw [rounds_succ]
    go_wp2_with (first | (go_at_call 140; refine (errors_Is.unwraps _ _ _).mono ?_; rintro _ w1 ⟨rfl, hb⟩))
    rw [rounds_succ]
    go_wp2
    go_ret
    exact ⟨rfl, hb⟩
theorem errors_Is.calls (a0 a1 : Option Er) (r : Bool) (w : World) (h : errors_Is.f a0 a1 = some r) :
    Calls Tryd.prog 48 #[errW a0, errW a1] w fun e w' => e = .returned (.bool r) ∧ Below w.heap.size w w' := by
  unfold errors_Is.f at h
  split at h
  · cases h
    exact (errors_Is.calls_nil _ w).mono (by rintro e w' ⟨rfl, rfl⟩; exact ⟨rfl, Below.refl _ _⟩)
  · cases h
    exact (errors_Is.calls_no _ _ w).mono (by rintro e w' ⟨rfl, rfl⟩; exact ⟨rfl, Below.refl _ _⟩)
  · cases h
    exact errors_Is.calls_at _ _ _ w
  · cases h

/-! ### cavillaw01_Code: function 20 -/
def cavillaw01_Code.l0 : Nat → Option Er → Int → Option (Int)
  | 0, _, _ => none
  | k + 1, x0, x3 => if x3 ≤ 25 then ((errors_Is.f x0 (some (Er.no x3))).bind fun t169 => (if t169 = true then (some x3) else (cavillaw01_Code.l0 k x0 (wrap64 (x3 + 1))))) else (some (-1))
def cavillaw01_Code.f (k : Nat) (a0 : Option Er) : Option (Int) := if a0.isNone = true then (some 0) else (cavillaw01_Code.l0 k (some (a0.getD (Er.no 0))) 1)
theorem cavillaw01_Code.mono_l : ∀ k, (∀ y0 y1, LeO (cavillaw01_Code.l0 k y0 y1) (cavillaw01_Code.l0 (k + 1) y0 y1))
  | 0 => fun _ _ r h => by simp [cavillaw01_Code.l0] at h
  | k + 1 => by
    have ih0 := cavillaw01_Code.mono_l k
    · intro y0 y1
      unfold cavillaw01_Code.l0
      repeat' first
      | (with_reducible exact ih0 _ _)
      | (with_reducible exact LeO.refl _)
      | (with_reducible exact LeO.none _)
      | (with_reducible refine LeO.ite ?_ ?_)
      | (with_reducible refine LeO.bind ?_ (fun _ => ?_))
      | exact ih0 _ _
      | exact LeO.none _
      | refine LeO.ite ?_ ?_
      | refine LeO.bind ?_ (fun _ => ?_)
theorem cavillaw01_Code.mono : ∀ a0 k, LeO (cavillaw01_Code.f k a0) (cavillaw01_Code.f (k + 1) a0) := by
  intro a0 k
  have ih0 := cavillaw01_Code.mono_l k
  unfold cavillaw01_Code.f
  repeat' first
      | (with_reducible exact ih0 _ _)
      | (with_reducible exact LeO.refl _)
      | (with_reducible exact LeO.none _)
      | (with_reducible refine LeO.ite ?_ ?_)
      | (with_reducible refine LeO.bind ?_ (fun _ => ?_))
      | exact ih0 _ _
      | exact LeO.none _
      | refine LeO.ite ?_ ?_
      | refine LeO.bind ?_ (fun _ => ?_)
set_option maxHeartbeats 8000000 in
set_option maxRecDepth 100000 in
theorem cavillaw01_Code.calls (k : Nat) (a0 : Option Er) (r : Int) (w : World) (h : cavillaw01_Code.f k a0 = some r) :
    Calls Tryd.prog 20 #[errW a0] w fun e w' => e = .returned (.int .i64 r) ∧ Below w.heap.size w w' := by
  have hu30 := Tryd.underlying30
  have hu74 := Tryd.underlying74
  have HB := Aside0.mk (Below.refl w.heap.size w)
  have H : (if a0.isNone = true then (some 0) else (cavillaw01_Code.l0 k (some (a0.getD (Er.no 0))) 1)) = some r := h
  clear h
  rcases a0 with _ | q168
  · have H1 : (some 0) = some r := by rw [if_pos (show (none : Option Er).isNone = true by rfl)] at H; exact H
    clear H
    have H := H1
    clear H1
    simp only [errW_none, errW_some, erT_no, erV_no, erT_at, erV_at]
    obtain rfl := Option.some.inj H
    go_enter Tryd.func20, Tryd.ntmps20
    go_wp2
    go_ret
    exact ⟨by first | rfl | (simp [errW_none, errW_some, erT_no, erV_no, erT_at, erV_at] <;> rfl) | (simp [*, errW_none, errW_some, erT_no, erV_no, erT_at, erV_at] <;> rfl), by repeat (first | (with_reducible first | exact HB.out | apply below_alloc | apply pw_below_drewN | apply below_drew1) | exact HB.out)⟩
  · have H1 : (cavillaw01_Code.l0 k (some q168) 1) = some r := by rw [if_neg (show ¬ (some q168).isNone = true by simp)] at H; exact H
    clear H
    have H := H1
    clear H1
    simp only [errW_none, errW_some, erT_no, erV_no, erT_at, erV_at]
    have H' := Aside0.mk H
    clear H
    go_enter Tryd.func20, Tryd.ntmps20
    go_wp2
    go_loopg [3] k (fun kq v3 w' => ∃ (x3_1 : Int), v3 = .int .i64 x3_1 ∧ Aside0 (cavillaw01_Code.l0 kq (some q168) x3_1 = some r) ∧ Aside0 (kq ≤ k) ∧ Aside0 (Below w.heap.size w w'))
    case atStart => exact ⟨(1), (by first | rfl | (simp; done) | (simp [*]; done)), H', ⟨Nat.le_refl _⟩, ⟨by repeat (first | (with_reducible first | exact HB.out | apply below_alloc | apply pw_below_drewN | apply below_drew1) | exact HB.out)⟩⟩
    case round =>
      clear H'
      try clear q1
      try clear q168
      obtain ⟨x3_1, rfl, HA, HK1, HB⟩ := hrel
      cases gk with
      | zero => exact absurd HA.out (by simp [cavillaw01_Code.l0])
      | succ k1 =>
        have H := HA.out
        clear HA
        simp only [cavillaw01_Code.l0] at H
        by_cases c2 : x3_1 ≤ 25
        · rw [if_pos c2] at H
          have c2b0 : decide (x3_1 ≤ 25) = true := decide_eq_true c2
          clear c2
          replace H := Option.bind_eq_some_iff.mp H
          obtain ⟨t169, A30, H⟩ := H
          replace H : (if t169 = true then (some x3_1) else (cavillaw01_Code.l0 k1 (some q168) (wrap64 (x3_1 + 1)))) = some r := H
          have A3 := Aside0.mk A30
          clear A30
          by_cases c4 : t169 = true
          · subst c4
            have H1 : (some x3_1) = some r := by rw [if_pos rfl] at H; exact H
            clear H
            have H := H1
            clear H1
            obtain rfl := Option.some.inj H
            have CA3 := fun W => errors_Is.calls (some q168) (some (Er.no x3_1)) true W A3.out
            try simp only [errW_none, errW_some, erT_no, erV_no, erT_at, erV_at] at CA3
            go_wp2_with (first | (go_at_call 48; (with_reducible refine (CA3 _).mono ?_); rintro e w5 ⟨rfl, hb⟩; have n0_ := Aside0.mk (below_step (by repeat (first | (with_reducible first | exact HB.out | apply below_alloc | apply pw_below_drewN | apply below_drew1) | exact HB.out)) hb); clear HB; have HB := n0_; clear n0_; (try clear hb); (try clear hb2); (try clear hk); (try clear hi)))
            go_ret
            exact ⟨by first | rfl | (simp [errW_none, errW_some, erT_no, erV_no, erT_at, erV_at] <;> rfl) | (simp [*, errW_none, errW_some, erT_no, erV_no, erT_at, erV_at] <;> rfl), by repeat (first | (with_reducible first | exact HB.out | apply below_alloc | apply pw_below_drewN | apply below_drew1) | exact HB.out)⟩
          · replace c4 := Bool.eq_false_iff.mpr c4
            subst c4
            have H1 : (cavillaw01_Code.l0 k1 (some q168) (wrap64 (x3_1 + 1))) = some r := by rw [if_neg (show ¬ (false = true) by decide)] at H; exact H
            clear H
            have H := H1
            clear H1
            have H' := Aside0.mk H
            clear H
            have CA3 := fun W => errors_Is.calls (some q168) (some (Er.no x3_1)) false W A3.out
            try simp only [errW_none, errW_some, erT_no, erV_no, erT_at, erV_at] at CA3
            go_wp2_with (first | (go_at_call 48; (with_reducible refine (CA3 _).mono ?_); rintro e w6 ⟨rfl, hb⟩; have n0_ := Aside0.mk (below_step (by repeat (first | (with_reducible first | exact HB.out | apply below_alloc | apply pw_below_drewN | apply below_drew1) | exact HB.out)) hb); clear HB; have HB := n0_; clear n0_; (try clear hb); (try clear hb2); (try clear hk); (try clear hi)))
            go_roundg k1
            case measure => have := HK1.out; omega
            case rel => exact ⟨(wrap64 (x3_1 + 1)), (by first | rfl | (simp; done) | (simp [*]; done)), H', ⟨by have := HK1.out; omega⟩, ⟨by repeat (first | (with_reducible first | exact HB.out | apply below_alloc | apply pw_below_drewN | apply below_drew1) | exact HB.out)⟩⟩
        · rw [if_neg c2] at H
          have c2b0 : decide (x3_1 ≤ 25) = false := decide_eq_false c2
          clear c2
          obtain rfl := Option.some.inj H
          go_wp2
          go_ret
          exact ⟨by first | rfl | (simp [errW_none, errW_some, erT_no, erV_no, erT_at, erV_at] <;> rfl) | (simp [*, errW_none, errW_some, erT_no, erV_no, erT_at, erV_at] <;> rfl), by repeat (first | (with_reducible first | exact HB.out | apply below_alloc | apply pw_below_drewN | apply below_drew1) | exact HB.out)⟩

end Go.Proofs.YtnpgadfoohjlnabDoor.QX
