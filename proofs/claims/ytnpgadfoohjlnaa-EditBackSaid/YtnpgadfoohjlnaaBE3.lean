/- EditBack, plain: Invert undoes Apply, and the length changes by Grow. For every list of bytes and every list of edits. -/
import Derived.Test.YtnpgadfoohjlnaaBG1
import Derived.Test.YtnpgadfoohjlnaaQB7
namespace Go.Proofs.Ytnpgadfoohjlnaa.Plain
open Go.RowKit Go.Proofs.YtnpgadfoohjlnaaW.PrintWords Go.Proofs.YtnpgadfoohjlnaaW.PrintLast Go.Proofs.YtnpgadfoohjlnaaW.PrintMore Go.Proofs.Ytnpgadfoohjlnaa.QB

theorem str_bytes (s : ByteArray) : strOfNums (bytesOf s) = s := by
  unfold strOfNums bytesOf
  rw [List.map_map]
  have h : ((fun n : Int => UInt8.ofNat n.toNat) ∘ fun b : UInt8 => (b.toNat : Int)) = id := funext fun b => by simp
  rw [h, List.map_id]
theorem bytes_str {l : List Int} (h : Bytes8 l) : bytesOf (strOfNums l) = l := by
  unfold strOfNums bytesOf
  rw [List.map_map]
  refine (List.map_congr_left (g := id) fun n hn => ?_).trans (List.map_id _)
  have := h n hn
  show ((UInt8.ofNat n.toNat).toNat : Int) = n
  rw [UInt8.toNat_ofNat']
  omega
theorem str_size (l : List Int) : (strOfNums l).size = l.length := by
  show (l.map fun n => UInt8.ofNat n.toNat).toArray.size = _
  simp
/-- The edits that lead back. -/
def invL (b : List Int) : Int → List S64 → List S64
  | _, [] => []
  | g, x :: r => ⟨x.f0 + g, x.f0 + g + (x.f2.size : Int), strOfNums ((b.take x.f1.toNat).drop x.f0.toNat)⟩ :: invL b (g + more x) r
theorem invL_len (b : List Int) : ∀ (l : List S64) (g : Int), (invL b g l).length = l.length
  | [], g => rfl
  | x :: r, g => by
    simp only [invL, List.length_cons]
    rw [invL_len b r]
theorem inv_loop (b : List Int) (l : List S64) (hn : b.length ≤ 300) (hl : l.length ≤ 12) (hs : small l) : ∀ (d i : Nat) (a gr : Int) (out : List S64), i + d = l.length → 0 ≤ a → ValidL b.length a (l.drop i) → -400 * (i : Int) ≤ gr → gr ≤ 400 * (i : Int) → out.length = i →
    Ev (fun k => edit_Invert.l0 k b l gr out (i : Int)) (out ++ invL b gr (l.drop i), none)
  | 0, i, a, gr, out, h, ha, hv, g0, g1, ho => by
    rw [List.drop_of_length_le (by omega)]
    simp only [invL, List.append_nil]
    refine evConst fun k => ?_
    simp only [edit_Invert.l0]
    rw [if_neg (by omega)]
  | d + 1, i, a, gr, out, h, ha, hv, g0, g1, ho => by
    have hi : i < l.length := by omega
    rw [List.drop_eq_getElem_cons hi] at hv ⊢
    obtain ⟨v0, v1, v2, v3⟩ := hv
    have hz := hs _ (List.getElem_mem hi)
    have hbd := more_bd (by omega) v1 v2 (by omega) hz
    have ih := inv_loop b l hn hl hs d (i + 1) l[i].f1 (gr + more l[i]) (out ++ [(⟨l[i].f0 + gr, l[i].f0 + gr + (l[i].f2.size : Int), strOfNums ((b.take l[i].f1.toNat).drop l[i].f0.toNat)⟩ : S64)]) (by omega) (by omega) v3 (by omega) (by omega) (by rw [List.length_append, ho]; rfl)
    simp only [invL]
    rw [List.append_assoc, List.singleton_append] at ih
    refine evNext ih (fun k => ?_)
    simp only [edit_Invert.l0]
    rw [if_pos (by omega), if_pos (by omega), rdE l i hi, if_pos (by omega), if_pos v1, if_pos v2, if_pos (by omega), more_f, Option.bind_some, w64_add_r, w64_id (a := gr + more l[i]) (by omega) (by omega), w64_id (a := l[i].f0 + gr) (by omega) (by omega), w64_id (a := l[i].f0 + gr + (l[i].f2.size : Int)) (by omega) (by omega), w64_succ hi (by omega)]
theorem invert_ev (b : List Int) (l : List S64) (hb : Bytes8 b) (hn : b.length ≤ 300) (hl : l.length ≤ 12) (hs : small l) : Ev (fun k => edit_Invert.f k b l) (match checkE b l with | none => (invL b 0 l, none) | some e => ([], some e)) := by
  unfold edit_Invert.f
  refine Ev.bind (f := fun k t => if t.2.isNone = true then edit_Invert.l0 k b l 0 [] 0 else some (([] : List S64), some (t.2.getD (Er.no 0)))) (apply_ev b l hb hn hl hs) ?_
  unfold applyOf
  cases e : checkE b l with
  | some q => exact Ev.now _
  | none => exact inv_loop b l hn hl hs l.length 0 0 0 [] (by omega) (by omega) (checkE_valid e) (by omega) (by omega) rfl
/-- The number of an error's kind, sought from one on. -/
def codeGo (c : Int) : Nat → Nat → Int
  | 0, _ => -1
  | d + 1, i => if c = (i : Int) then (i : Int) else codeGo c d (i + 1)
theorem is_f {e : Er} {c : Int} (h : e = .no c ∨ ∃ o, e = .at_ o (.no c)) (d : Int) : errors_Is.f (some e) (some (.no d)) = some (decide (c = d)) := by
  rcases h with rfl | ⟨o, rfl⟩ <;> rfl
theorem code_loop {e : Er} {c : Int} (h : e = .no c ∨ ∃ o, e = .at_ o (.no c)) : ∀ (d i : Nat), i + d = 26 → Ev (fun k => cavillaw01_Code.l0 k (some e) (i : Int)) (codeGo c d i)
  | 0, i, hi => by
    refine evConst fun k => ?_
    simp only [cavillaw01_Code.l0, codeGo]
    rw [if_neg (by omega)]
  | d + 1, i, hi => by
    simp only [codeGo]
    by_cases q : c = (i : Int)
    · rw [if_pos q]
      refine evConst fun k => ?_
      simp only [cavillaw01_Code.l0]
      rw [if_pos (by omega), is_f h, Option.bind_some, decide_eq_true q, if_pos rfl]
    · rw [if_neg q]
      refine evNext (code_loop h d (i + 1) (by omega)) (fun k => ?_)
      simp only [cavillaw01_Code.l0]
      rw [if_pos (by omega), is_f h, Option.bind_some, decide_eq_false q, if_neg (by simp), w64_id (by omega) (by omega)]
      rfl
theorem code_ev {e : Er} {c : Int} (h : e = .no c ∨ ∃ o, e = .at_ o (.no c)) : Ev (fun k => cavillaw01_Code.f k (some e)) (codeGo c 25 1) := code_loop h 25 1 rfl
theorem one_no {b : List Int} {l : List S64} {i : Nat} {h : i < l.length} {q : Er} (e : oneOf b l i h = some q) : ∃ c, q = .no c := by
  unfold oneOf at e
  split at e
  · exact ⟨_, (Option.some.inj e).symm⟩
  · split at e
    · exact ⟨_, (Option.some.inj e).symm⟩
    · split at e
      · cases e
      · exact ⟨_, (Option.some.inj e).symm⟩
theorem chk_err {b : List Int} {l : List S64} {q : Er} : ∀ (d i : Nat), chkFrom b l d i = some q → ∃ c o, q = .at_ o (.no c)
  | 0, i, h => by cases h
  | d + 1, i, h => by
    simp only [chkFrom] at h
    split at h
    · split at h
      · exact chk_err d (i + 1) h
      · rename_i e1
        obtain ⟨c, rfl⟩ := one_no e1
        exact ⟨c, _, (Option.some.inj h).symm⟩
    · cases h
theorem check_err {b : List Int} {l : List S64} {q : Er} (h : checkE b l = some q) : ∃ c, q = .no c ∨ ∃ o, q = .at_ o (.no c) := by
  unfold checkE at h
  split at h
  · exact ⟨_, .inl (Option.some.inj h).symm⟩
  · obtain ⟨c, o, e⟩ := chk_err _ _ h
    exact ⟨c, .inr ⟨o, e⟩⟩
/-- By how much all edits make a file longer. -/
def tot : List S64 → Int
  | [] => 0
  | x :: r => more x + tot r
theorem fold_tot (l : List S64) : ∀ (g : Int), (∀ x ∈ l, -400 ≤ more x ∧ more x ≤ 400) → l.length ≤ 200 → -100000 + 400 * (l.length : Int) ≤ g → g ≤ 100000 - 400 * (l.length : Int) → l.foldl gstep g = g + tot l := by
  induction l with
  | nil =>
    intro g _ _ _ _
    simp only [List.foldl_nil, tot, Int.add_zero]
  | cons x r ih =>
    intro g hm hl g0 g1
    have hx := hm x (List.mem_cons_self ..)
    rw [List.length_cons] at hl g0 g1
    rw [List.foldl_cons, gstep_eq (by omega), ih _ (fun y hy => hm y (List.mem_cons_of_mem _ hy)) (by omega) (by omega) (by omega)]
    simp only [tot]
    omega
theorem grow_tot {l : List S64} (hm : ∀ x ∈ l, -400 ≤ more x ∧ more x ≤ 400) (hl : l.length ≤ 200) : grow l = tot l := by
  unfold grow
  rw [fold_tot l 0 hm hl (by omega) (by omega), Int.zero_add]
theorem valid_more {n : Int} (hn : n ≤ 300) : ∀ {l : List S64} {a : Int}, ValidL n a l → 0 ≤ a → small l → ∀ x ∈ l, -400 ≤ more x ∧ more x ≤ 400
  | [], a, _, _, _, x, hx => by simp at hx
  | y :: r, a, ⟨v0, v1, v2, v3⟩, ha, hs, x, hx => by
    obtain ⟨s0, s1⟩ := small_cons hs
    rcases List.mem_cons.1 hx with rfl | hx
    · have := more_bd (by omega) v1 v2 hn s0
      omega
    · exact valid_more hn v3 (by omega) s1 x hx
theorem inv_more (b : List Int) : ∀ {l : List S64} {a : Int} (g : Int), ValidL b.length a l → 0 ≤ a → (∀ x ∈ l, -400 ≤ more x ∧ more x ≤ 400) → (∀ y ∈ invL b g l, -400 ≤ more y ∧ more y ≤ 400) ∧ tot (invL b g l) = - tot l
  | [], a, g, _, _, _ => ⟨fun y hy => by simp [invL] at hy, rfl⟩
  | x :: r, a, g, ⟨v0, v1, v2, v3⟩, ha, hm => by
    obtain ⟨i0, i1⟩ := inv_more b (g + more x) v3 (by omega) (fun y hy => hm y (List.mem_cons_of_mem _ hy))
    have hx := hm x (List.mem_cons_self ..)
    have hl1 : ((b.take x.f1.toNat).drop x.f0.toNat).length = x.f1.toNat - x.f0.toNat := by rw [List.length_drop, List.length_take]; omega
    have hy : more (⟨x.f0 + g, x.f0 + g + (x.f2.size : Int), strOfNums ((b.take x.f1.toNat).drop x.f0.toNat)⟩ : S64) = - more x := by
      show ((strOfNums ((b.take x.f1.toNat).drop x.f0.toNat)).size : Int) - (x.f0 + g + (x.f2.size : Int) - (x.f0 + g)) = - ((x.f2.size : Int) - (x.f1 - x.f0))
      rw [str_size, hl1]
      omega
    simp only [invL, tot]
    refine ⟨fun y h => ?_, by rw [hy, i1]; omega⟩
    rcases List.mem_cons.1 h with rfl | h
    · rw [hy]
      omega
    · exact i0 y h
theorem app_tot (b : List Int) : ∀ {l : List S64} {a : Int}, ValidL b.length a l → 0 ≤ a → ((app b a l).length : Int) = b.length - a + tot l
  | [], a, v, ha => by
    have v : a ≤ (b.length : Int) := v
    simp only [app, tot, List.length_drop]
    omega
  | x :: r, a, ⟨v0, v1, v2, v3⟩, ha => by
    have i := app_tot b v3 (by omega)
    have hm : more x = (x.f2.size : Int) - (x.f1 - x.f0) := rfl
    simp only [app, tot, List.length_append, List.length_drop, List.length_take, bytesOf_length]
    omega
theorem mid_take {α : Type} (P S R : List α) {m n : Nat} (hm : m = P.length) (hn : n = P.length + S.length) : ((P ++ (S ++ R)).take n).drop m = S := by
  subst hm
  rw [← List.append_assoc, List.take_left' (by rw [List.length_append, hn]), List.drop_left]
/-- The way back, edit by edit. -/
theorem undo_loop (b : List Int) (l : List S64) (X : List Int) (hb : Bytes8 b) (hn : b.length ≤ 300) (hl : l.length ≤ 12) (hs : small l) (hX : X.length ≤ 100000) : ∀ (d i : Nat) (a gr : Int) (P : List Int), i + d = l.length → 0 ≤ a → a ≤ b.length → ValidL b.length a (l.drop i) → X = P ++ app b a (l.drop i) → (P.length : Int) = a + gr → -400 * (i : Int) ≤ gr → gr ≤ 400 * (i : Int) → (invL b 0 l).drop i = invL b gr (l.drop i) →
    Ev (fun k => cavillaw04_EditBack.l0 k b l X (a + gr) (b.take a.toNat) (invL b 0 l) (l.length : Int) (i : Int)) true
  | 0, i, a, gr, P, h, ha, han, hv, hx, hP, g0, g1, hm => by
    rw [List.drop_of_length_le (by omega)] at hx
    simp only [app] at hx
    have hd : X.drop (a + gr).toNat = b.drop a.toNat := by
      rw [hx, show (a + gr).toNat = P.length by omega, List.drop_left]
    have hXl : X.length = P.length + (b.length - a.toNat) := by rw [hx, List.length_append, List.length_drop]
    refine evNext (f := fun k => (cavillaw04_works.f k).bind fun t => some t) (Ev.bind (f := fun _ t => some t) works_ev (Ev.now _)) (fun k => ?_)
    simp only [cavillaw04_EditBack.l0]
    have he : ∀ z : List Int, bytes_Equal.f z z = some true := fun z => by unfold bytes_Equal.f; rw [beq_self_eq_true]
    rw [if_neg (by omega), if_pos (by omega), if_pos (by omega), Option.bind_some, hd, if_pos (by rw [List.length_take, List.length_drop]; omega), List.take_append_drop, he, Option.bind_some, if_pos rfl]
  | d + 1, i, a, gr, P, h, ha, han, hv, hx, hP, g0, g1, hm => by
    have hi : i < l.length := by omega
    have him : i < (invL b 0 l).length := by rw [invL_len]; exact hi
    rw [List.drop_eq_getElem_cons hi] at hv hx hm
    rw [List.drop_eq_getElem_cons him] at hm
    simp only [invL, List.cons.injEq] at hm
    obtain ⟨hy, hrest⟩ := hm
    obtain ⟨v0, v1, v2, v3⟩ := hv
    have hz := hs _ (List.getElem_mem hi)
    have hbd := more_bd (by omega) v1 v2 (by omega) hz
    have hmo : more l[i] = (l[i].f2.size : Int) - (l[i].f1 - l[i].f0) := rfl
    simp only [app] at hx
    have hd : ((b.take l[i].f0.toNat).drop a.toNat).length = l[i].f0.toNat - a.toNat := by rw [List.length_drop, List.length_take]; omega
    have ht : (bytesOf l[i].f2).length = l[i].f2.size := bytesOf_length _
    have hc1 : (X.take (l[i].f0 + gr).toNat).drop (a + gr).toNat = (b.take l[i].f0.toNat).drop a.toNat := by
      rw [hx, List.append_assoc]
      exact mid_take _ _ _ (by omega) (by omega)
    have hc2 : (X.take (l[i].f0 + gr + (l[i].f2.size : Int)).toNat).drop (l[i].f0 + gr).toNat = bytesOf l[i].f2 := by
      rw [hx, List.append_assoc, ← List.append_assoc]
      exact mid_take _ _ _ (by rw [List.length_append]; omega) (by rw [List.length_append]; omega)
    have hXl : X.length = P.length + ((l[i].f0.toNat - a.toNat) + l[i].f2.size + (app b l[i].f1 (l.drop (i + 1))).length) := by
      rw [hx, List.length_append, List.length_append, List.length_append, hd, ht]
    have hseg : Bytes8 ((b.take l[i].f1.toNat).drop l[i].f0.toNat) := (hb.take _).drop _
    have hcat : b.take a.toNat ++ (b.take l[i].f0.toNat).drop a.toNat ++ (b.take l[i].f1.toNat).drop l[i].f0.toNat = b.take l[i].f1.toNat := by
      have e1 : b.take a.toNat = (b.take l[i].f0.toNat).take a.toNat := by rw [List.take_take]; congr 1; omega
      have e2 : b.take l[i].f0.toNat = (b.take l[i].f1.toNat).take l[i].f0.toNat := by rw [List.take_take]; congr 1; omega
      rw [e1, List.take_append_drop]
      rw [e2, List.take_append_drop]
    have hsl : (strOfNums ((b.take l[i].f1.toNat).drop l[i].f0.toNat)).size = l[i].f1.toNat - l[i].f0.toNat := by
      rw [str_size, List.length_drop, List.length_take]
      omega
    have ih := undo_loop b l X hb hn hl hs hX d (i + 1) l[i].f1 (gr + more l[i]) (P ++ (b.take l[i].f0.toNat).drop a.toNat ++ bytesOf l[i].f2) (by omega) (by omega) v2 v3 (by rw [hx]; simp only [List.append_assoc]) (by rw [List.length_append, List.length_append, hd, ht]; omega) (by omega) (by omega) hrest
    rw [show l[i].f1 + (gr + more l[i]) = l[i].f0 + gr + (l[i].f2.size : Int) by omega] at ih
    refine evNext ih (fun k => ?_)
    simp only [cavillaw04_EditBack.l0]
    rw [if_pos (by omega), if_pos (by omega), if_pos (by rw [invL_len]; omega), rdE _ i him, hy]
    dsimp only
    rw [if_neg (by omega), if_neg (by omega), if_neg (by omega), if_pos (by omega), if_pos (by omega), if_pos (by omega), if_pos (by omega), rdE l i hi, hc2, str_bytes, if_pos rfl, if_pos (by omega), if_pos (by omega), if_pos (by omega), hc1, Option.bind_some, if_pos (by rw [List.length_take, hd]; omega), Option.bind_some, if_pos (by rw [List.length_append, List.length_take, hd, hsl]; omega), bytes_str hseg, hcat, w64_succ hi (by omega)]
theorem EditBack (b : List Int) (l : List S64) (hb : Bytes8 b) : ∃ k, cavillaw04_EditBack.f k b l = some true := by
  refine Ev.rounds ?_
  obtain ⟨c, hc⟩ : ∃ c, c = b.take (mn (b.length : Int) 300).toNat := ⟨_, rfl⟩
  have hmn : 0 ≤ mn (b.length : Int) 300 ∧ mn (b.length : Int) 300 ≤ b.length ∧ mn (b.length : Int) 300 ≤ 300 := by
    unfold mn
    split <;> omega
  have hcn : c.length ≤ 300 := by
    rw [hc, List.length_take]
    omega
  have hcb : Bytes8 c := hc ▸ hb.take _
  have hap := apply_ev c (fewOf l) hcb hcn (few_len l) (few_small l)
  have hin := invert_ev c (fewOf l) hcb hcn (few_len l) (few_small l)
  unfold applyOf at hap
  have works := Ev.bind (f := fun _ t => some t) works_ev (Ev.now true)
  cases e : checkE c (fewOf l) with
  | some q =>
    rw [e] at hap hin
    obtain ⟨n, hq⟩ := check_err e
    obtain ⟨K1, h1⟩ := few_ev l
    obtain ⟨K2, h2⟩ := hap
    obtain ⟨K3, h3⟩ := hin
    obtain ⟨K4, h4⟩ := code_ev hq
    obtain ⟨K5, h5⟩ := works_ev
    refine ⟨K1 + K2 + K3 + K4 + K5, fun k hk => ?_⟩
    dsimp only at h1 h2 h3 h4 h5
    show cavillaw04_EditBack.f k b l = some true
    unfold cavillaw04_EditBack.f
    rw [if_pos hmn.1, if_pos hmn.2.1, Option.bind_some, ← hc, h1 k (by omega), Option.bind_some, h2 k (by omega), Option.bind_some, h3 k (by omega), Option.bind_some]
    simp only [Option.isNone_some, Option.getD_some]
    rw [if_neg (by simp), if_neg (by simp), if_pos (show ((([] : List S64).length : Nat) : Int) = 0 from rfl), h4 k (by omega), Option.bind_some, Option.bind_some, if_pos rfl, h5 k (by omega)]
    rfl
  | none =>
    rw [e] at hap hin
    have hv := checkE_valid e
    have hfl := few_len l
    have hsm := few_small l
    have hvm := valid_more (show ((c.length : Nat) : Int) ≤ 300 by omega) hv (by omega) hsm
    obtain ⟨im, it⟩ := inv_more c 0 hv (by omega) hvm
    have hat := app_tot c hv (by omega)
    have hgl := grow_tot hvm (by omega)
    have hgi := grow_tot im (by rw [invL_len]; omega)
    rw [it] at hgi
    have htb : -5000 ≤ tot (fewOf l) ∧ tot (fewOf l) ≤ 5000 := by
      have : ∀ m : List S64, (∀ x ∈ m, -400 ≤ more x ∧ more x ≤ 400) → -400 * (m.length : Int) ≤ tot m ∧ tot m ≤ 400 * (m.length : Int) := by
        intro m
        induction m with
        | nil => intro _; simp [tot]
        | cons x r ih =>
          intro hm
          have h1 := hm x (List.mem_cons_self ..)
          have h2 := ih (fun y hy => hm y (List.mem_cons_of_mem _ hy))
          simp only [tot, List.length_cons]
          omega
      have := this _ hvm
      omega
    have hu : Ev (fun k => cavillaw04_EditBack.l0 k c (fewOf l) (app c 0 (fewOf l)) 0 [] (invL c 0 (fewOf l)) ((fewOf l).length : Int) 0) true := undo_loop c (fewOf l) (app c 0 (fewOf l)) hcb hcn hfl hsm (by omega) (fewOf l).length 0 0 0 [] (by omega) (by omega) (by omega) hv rfl rfl (by omega) (by omega) rfl
    obtain ⟨K1, h1⟩ := few_ev l
    obtain ⟨K2, h2⟩ := hap
    obtain ⟨K3, h3⟩ := hin
    obtain ⟨K4, h4⟩ := grow_ev (fewOf l) (by omega)
    obtain ⟨K5, h5⟩ := grow_ev (invL c 0 (fewOf l)) (by rw [invL_len]; omega)
    obtain ⟨K6, h6⟩ := hu
    refine ⟨K1 + K2 + K3 + K4 + K5 + K6 + 1, fun k hk => ?_⟩
    dsimp only at h1 h2 h3 h4 h5 h6
    show cavillaw04_EditBack.f k b l = some true
    unfold cavillaw04_EditBack.f
    rw [if_pos hmn.1, if_pos hmn.2.1, Option.bind_some, ← hc, h1 k (by omega), Option.bind_some, h2 k (by omega), Option.bind_some, h3 k (by omega), Option.bind_some]
    simp only [Option.isNone_none]
    rw [if_pos trivial, if_pos trivial, if_pos (by rw [invL_len]), h4 k (by omega), Option.bind_some, hgl, if_pos (by rw [w64_id (by omega) (by omega)]; omega), h5 k (by omega), Option.bind_some, Option.bind_some, hgi, w64_id (by omega) (by omega), bne_self_eq_false]
    obtain ⟨k', rfl⟩ : ∃ k', k = k' + 1 := ⟨k - 1, by omega⟩
    simp only [cavillaw04_EditBack.j0]
    rw [if_neg (by simp), invL_len]
    exact h6 k' (by omega)
end Go.Proofs.Ytnpgadfoohjlnaa.Plain
