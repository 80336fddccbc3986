/- A file's nodes, plain: operators, directions, kinds of tokens; the law on them. No condition beyond what each lemma says. -/
import Derived.Test.YtnpgadfoohjlnaaN1
import Derived.Test.YtnpgadfoohjlnaaQV7
import Derived.Test.YtnpgadfoohjlnaaQV11
import Derived.Test.YtnpgadfoohjlnaaQV15
import Derived.Test.YtnpgadfoohjlnaaQV9
import Derived.Test.YtnpgadfoohjlnaaQV17
import Derived.Test.YtnpgadfoohjlnaaQV18
namespace Go.Proofs.Ytnpgadfoohjlnaa.Plain
open Go.RowKit Go.Proofs.YtnpgadfoohjlnaaW.PrintWords Go.Proofs.YtnpgadfoohjlnaaW.PrintLast Go.Proofs.YtnpgadfoohjlnaaW.PrintMore Go.Proofs.Ytnpgadfoohjlnaa.QV

abbrev kd15 (ts : List S38) (i : Int) : Int := (rd_T38 ts i).f0
/-- The ten signs that are no operators. -/
abbrev sign (k : Int) : Prop := 78 ≤ k ∧ k ≤ 87
abbrev signs : ByteArray := ⟨#[40, 32, 41, 32, 91, 32, 93, 32, 123, 32, 125, 32, 44, 32, 46, 32, 58, 32, 59, 32]⟩
theorem in_all : ∀ i : Fin 100, cavilref06_In.f 300 ((i.val : Nat) : Int) signs = some (decide (sign ((i.val : Nat) : Int))) := by decide +kernel
theorem in_none : cavilref06_In.l0 30 signs (⟨#[]⟩ : ByteArray) 0 = some false := by decide +kernel
theorem spell_out (k : Int) (h : k < 1 ∨ 100 ≤ k) : Ev (fun n => cavilref06_Spell.f n k) (⟨#[]⟩ : ByteArray) := by
  have h1 : Ev (fun n => cavilref06_Spell.j1 n k false) (⟨#[]⟩ : ByteArray) := evConst fun n => by
    simp only [cavilref06_Spell.j1]
    rw [if_neg (by simp)]
    by_cases c : k ≥ 40
    · rw [if_pos c, if_neg (by omega)]
    · rw [if_neg c]
  have h2 : Ev (fun n => cavilref06_Spell.j0 n k false) (⟨#[]⟩ : ByteArray) := evNext h1 fun n => by
    simp only [cavilref06_Spell.j0]
    rw [if_neg (by simp)]
    by_cases c : k ≥ 10
    · rw [if_pos c, decide_eq_false (by omega)]
    · rw [if_neg c]
  refine evCong h2 fun n => ?_
  unfold cavilref06_Spell.f
  by_cases c : k ≥ 1
  · rw [if_pos c, decide_eq_false (by omega)]
  · rw [if_neg c]
theorem in_ev (k : Int) : Ev (fun n => cavilref06_In.f n k signs) (decide (sign k)) := by
  by_cases c : 0 ≤ k ∧ k < 100
  · obtain ⟨i, rfl⟩ := Int.eq_ofNat_of_zero_le c.1
    exact Ev.of (fun n => cavilref06_In.mono _ _ n) (k := 300) (in_all ⟨i, by omega⟩)
  · rw [decide_eq_false (by omega)]
    have h : Ev (fun n => cavilref06_In.l0 n signs (⟨#[]⟩ : ByteArray) 0) false := Ev.of (fun n => cavilref06_In.mono_l n _ _ _) (k := 30) in_none
    exact (spell_out k (by omega)).bind (f := fun n t => cavilref06_In.l0 n signs t 0) h
def opL (ts : List S38) : List Int → Int
  | [] => 0
  | i :: is => if sign (kd15 ts i) then opL ts is else kd15 ts i
theorem op_j1 (b : List Int) (ts : List S38) (l : List S44) (K : Int) (own : List Int) (n i : Int) (f : Bool) (r : Int)
    (next : f = true ∨ K = 81 ∨ K = 82 ∨ K = 87 ∨ K = 86 → Ev (fun k => view_File_Op.l0 k (fileOf b ts l) own n (wrap64 (i + 1))) r) (stop : ¬ (f = true ∨ K = 81 ∨ K = 82 ∨ K = 87 ∨ K = 86) → r = K) :
    Ev (fun k => view_File_Op.j1 k (fileOf b ts l) K own n i K f) r := by
  by_cases c : f = true ∨ K = 81 ∨ K = 82 ∨ K = 87 ∨ K = 86
  · refine evNext (next c) fun k => ?_
    simp only [view_File_Op.j1]
    by_cases c0 : f = true
    · rw [if_pos c0]
    · rw [if_neg c0]
      by_cases c1 : K = 81
      · rw [if_pos c1]
      · rw [if_neg c1]
        by_cases c2 : K = 82
        · rw [if_pos c2]
        · rw [if_neg c2]
          by_cases c3 : K = 87
          · rw [if_pos c3]
          · rw [if_neg c3, if_pos (by have := c.resolve_left c0; omega)]
  · rw [stop c]
    refine evConst fun k => ?_
    simp only [view_File_Op.j1]
    rw [if_neg (fun h => c (.inl h)), if_neg (fun h => c (by omega)), if_neg (fun h => c (by omega)), if_neg (fun h => c (by omega)), if_neg (fun h => c (by omega))]
theorem op_loop (b : List Int) (ts : List S38) (l : List S44) (own : List Int) (ho : own.length ≤ 100) (hin : ∀ x ∈ own, 0 ≤ x ∧ x < ts.length) : ∀ (d i : Nat), i + d = own.length →
    Ev (fun k => view_File_Op.l0 k (fileOf b ts l) own (own.length : Int) (i : Int)) (opL ts (own.drop i))
  | 0, i, h => by
    refine evConst fun k => ?_
    simp only [view_File_Op.l0]
    rw [if_neg (by omega), List.drop_of_length_le (by omega)]
    rfl
  | d + 1, i, h => by
    have hi : i < own.length := by omega
    have e := rd_nat own i hi
    have hm := hin _ (List.getElem_mem hi)
    have ih := op_loop b ts l own ho hin d (i + 1) (by omega)
    rw [List.drop_eq_getElem_cons hi]
    have w := w64_succ hi (show own.length ≤ 9223372036854775807 by omega)
    have next : ∀ (f : Bool), (f = true ↔ kd15 ts own[i] = 78 ∨ kd15 ts own[i] = 79 ∨ kd15 ts own[i] = 80 ∨ kd15 ts own[i] = 83 ∨ kd15 ts own[i] = 84 ∨ kd15 ts own[i] = 85) → Ev (fun k => view_File_Op.j1 k (fileOf b ts l) (kd15 ts own[i]) own (own.length : Int) (i : Int) (kd15 ts own[i]) f) (opL ts (own[i] :: own.drop (i + 1))) := fun f hf => by
      refine op_j1 b ts l _ own _ _ f _ (fun c => ?_) (fun c => ?_)
      · rw [w, opL, if_pos (by rw [hf] at c; omega)]
        exact ih
      · rw [opL, if_neg (by rw [hf] at c; omega)]
    refine evNext (f := fun k => view_File_Op.j1 k (fileOf b ts l) (kd15 ts own[i]) own (own.length : Int) (i : Int) (kd15 ts own[i]) (decide (kd15 ts own[i] = 78 ∨ kd15 ts own[i] = 79 ∨ kd15 ts own[i] = 80 ∨ kd15 ts own[i] = 83 ∨ kd15 ts own[i] = 84 ∨ kd15 ts own[i] = 85))) (next _ decide_eq_true_iff) fun k => ?_
    simp only [view_File_Op.l0]
    rw [if_pos (by omega), if_pos (by omega), if_pos (by omega), if_pos (one_pos b ts l), e, rd_file]
    dsimp only
    rw [if_pos hm.1, if_pos hm.2]
    by_cases c0 : kd15 ts own[i] = 78
    · rw [if_pos c0, decide_eq_true (by omega), show (kd15 ts own[i] == 78) = true from beq_iff_eq.2 c0]
    · rw [if_neg c0]
      by_cases c1 : kd15 ts own[i] = 83
      · rw [if_pos c1, decide_eq_true (by omega), show (kd15 ts own[i] == 83) = true from beq_iff_eq.2 c1]
      · rw [if_neg c1]
        by_cases c2 : kd15 ts own[i] = 79
        · rw [if_pos c2, decide_eq_true (by omega), show (kd15 ts own[i] == 79) = true from beq_iff_eq.2 c2]
        · rw [if_neg c2]
          by_cases c3 : kd15 ts own[i] = 84
          · rw [if_pos c3, decide_eq_true (by omega), show (kd15 ts own[i] == 84) = true from beq_iff_eq.2 c3]
          · rw [if_neg c3]
            by_cases c4 : kd15 ts own[i] = 80
            · rw [if_pos c4, decide_eq_true (by omega), show (kd15 ts own[i] == 80) = true from beq_iff_eq.2 c4]
            · rw [if_neg c4]
              by_cases c5 : kd15 ts own[i] = 85
              · rw [decide_eq_true (by omega), show (kd15 ts own[i] == 85) = true from beq_iff_eq.2 c5]
              · rw [decide_eq_false (by omega), show (kd15 ts own[i] == 85) = false from beq_eq_false_iff_ne.2 c5]
theorem op_ev (b : List Int) (ts : List S38) (l : List S44) (hf : Fine l ts.length) (ht : ts.length ≤ 100) (n : Int) : Ev (fun k => view_File_Op.f k (fileOf b ts l) n) (opL ts (ownN l n)) := by
  refine evCong (op_loop b ts l (ownN l n) (ownN_len hf (by omega) n) (fun x hx => ownN_mem hf hx) (ownN l n).length 0 (by omega)) fun k => ?_
  unfold view_File_Op.f
  rw [if_pos (one_pos b ts l), own_f b ts l hf (by omega), Option.bind_some]
  rfl
theorem rop_loop (ts : List S38) (own : List Int) (ho : own.length ≤ 100) (hin : ∀ x ∈ own, 0 ≤ x ∧ x < ts.length) : ∀ (d i : Nat), i + d = own.length →
    Ev (fun k => cavilref15_Op.l0 k ts own (i : Int)) (opL ts (own.drop i))
  | 0, i, h => by
    refine evConst fun k => ?_
    simp only [cavilref15_Op.l0]
    rw [if_neg (by omega), List.drop_of_length_le (by omega)]
    rfl
  | d + 1, i, h => by
    have hi : i < own.length := by omega
    have e := rd_nat own i hi
    have hm := hin _ (List.getElem_mem hi)
    have ih := rop_loop ts own ho hin d (i + 1) (by omega)
    rw [List.drop_eq_getElem_cons hi]
    refine evNext ((in_ev (kd15 ts own[i])).bind (f := fun k t => if t = true then cavilref15_Op.l0 k ts own (wrap64 ((i : Int) + 1)) else some (kd15 ts own[i])) ?_) fun k => ?_
    · rw [opL]
      by_cases c : sign (kd15 ts own[i])
      · rw [if_pos c, w64_succ hi (show own.length ≤ 9223372036854775807 by omega)]
        exact evCong ih fun k => if_pos (decide_eq_true c)
      · rw [if_neg c]
        exact evCong (Ev.now _) fun k => if_neg (by simpa using c)
    · simp only [cavilref15_Op.l0]
      rw [if_pos (by omega), if_pos (by omega), e, if_pos hm.1, if_pos hm.2]
theorem rop_ev (ts : List S38) (l : List S44) (hs : Small l) (hf : Fine l ts.length) (ht : ts.length ≤ 100) (n : Int) : Ev (fun k => cavilref15_Op.f k ts l n) (opL ts (ownN l n)) :=
  (rown15_ev l hs hf (by omega) n).bind (f := fun k t => cavilref15_Op.l0 k ts t 0) (rop_loop ts (ownN l n) (ownN_len hf (by omega) n) (fun x hx => ownN_mem hf hx) (ownN l n).length 0 (by omega))
/-- A channel's direction. -/
def chanN (ts : List S38) (l : List S44) (n : Int) : Int :=
  if (nodeN l n).1 = 26 then (if 0 < (ownN l n).length ∧ kd15 ts (rd (ownN l n) 0) = 64 then 2 else if 1 < (ownN l n).length ∧ kd15 ts (rd (ownN l n) 1) = 64 then 1 else 0) else 0
theorem rd_in {own : List Int} {t : Int} (hin : ∀ x ∈ own, 0 ≤ x ∧ x < t) (i : Nat) (h : i < own.length) : 0 ≤ rd own (i : Int) ∧ rd own (i : Int) < t := by
  rw [rd_nat own i h]
  exact hin _ (List.getElem_mem h)
theorem chan_ev (b : List Int) (ts : List S38) (l : List S44) (hf : Fine l ts.length) (ht : ts.length ≤ 100) (n : Int) : Ev (fun k => view_File_Chan.f k (fileOf b ts l) n) (chanN ts l n) := by
  have hin : ∀ x ∈ ownN l n, 0 ≤ x ∧ x < (ts.length : Int) := fun x hx => ownN_mem hf hx
  refine evNext (f := fun _ => some _) (Ev.now _) fun k => ?_
  unfold view_File_Chan.f chanN
  rw [if_pos (one_pos b ts l), own_f b ts l hf (by omega), Option.bind_some, node_f, Option.bind_some, rd_file]
  dsimp only
  by_cases c : (nodeN l n).1 = 26
  · rw [if_pos c, if_pos c]
    have tail : view_File_Chan.j0 (k + 1) (fileOf b ts l) (ownN l n) false = some (if 1 < (ownN l n).length ∧ kd15 ts (rd (ownN l n) 1) = 64 then 1 else 0) := by
      simp only [view_File_Chan.j0]
      rw [if_neg (by simp)]
      by_cases c1 : 1 < (ownN l n).length
      · have h1 : 0 ≤ rd (ownN l n) 1 ∧ rd (ownN l n) 1 < (ts.length : Int) := rd_in hin 1 c1
        rw [if_pos (by omega), if_pos (one_pos b ts l), if_pos (by omega), rd_file]
        dsimp only
        rw [if_pos h1.1, if_pos h1.2]
        by_cases c2 : kd15 ts (rd (ownN l n) 1) = 64
        · rw [if_pos c2, if_pos ⟨c1, c2⟩]
        · rw [if_neg c2, if_neg (fun h => c2 h.2)]
      · rw [if_neg (by omega), if_neg (fun h => c1 h.1)]
    by_cases c0 : 0 < (ownN l n).length
    · have h0 : 0 ≤ rd (ownN l n) 0 ∧ rd (ownN l n) 0 < (ts.length : Int) := rd_in hin 0 c0
      rw [if_pos (by omega), if_pos (by omega), if_pos h0.1, if_pos h0.2]
      by_cases c2 : kd15 ts (rd (ownN l n) 0) = 64
      · rw [show (kd15 ts (rd (ownN l n) 0) == 64) = true from beq_iff_eq.2 c2, if_pos ⟨c0, c2⟩, view_File_Chan.j0, if_pos rfl]
      · rw [show (kd15 ts (rd (ownN l n) 0) == 64) = false from beq_eq_false_iff_ne.2 c2, if_neg (fun h => c2 h.2)]
        exact tail
    · rw [if_neg (by omega), if_neg (fun h => c0 h.1)]
      exact tail
  · rw [if_neg c, if_neg c]
theorem rchan_ev (ts : List S38) (l : List S44) (hs : Small l) (hf : Fine l ts.length) (ht : ts.length ≤ 100) (n : Int) : Ev (fun k => cavilref15_Chan.f k ts l n) (chanN ts l n) := by
  have hin : ∀ x ∈ ownN l n, 0 ≤ x ∧ x < (ts.length : Int) := fun x hx => ownN_mem hf hx
  refine (rown15_ev l hs hf (by omega) n).bind (f := fun k t363 => ((cavilref15_In.f l n).bind fun t366 => (if t366 = true then (if 0 ≤ n then (if n < (l.length : Int) then (cavilref15_Chan.j0 k ts t363 (((rd_T44 l n).f0) != 26)) else (none)) else (none)) else (cavilref15_Chan.j0 k ts t363 true)))) ?_
  refine evNext (evNext (f := fun _ => some _) (Ev.now _) (g := fun k => (cavilref15_In.f l n).bind fun t366 => (if t366 = true then (if 0 ≤ n then (if n < (l.length : Int) then (cavilref15_Chan.j0 (k + 1) ts (ownN l n) (((rd_T44 l n).f0) != 26)) else (none)) else (none)) else (cavilref15_Chan.j0 (k + 1) ts (ownN l n) true))) fun k => ?_) fun k => rfl
  rw [in_f, Option.bind_some]
  unfold chanN
  by_cases ci : inN l n
  · have en : (nodeN l n).1 = (rd_T44 l n).f0 := by unfold nodeN; rw [if_pos ci]
    rw [if_pos (decide_eq_true ci), if_pos ci.1, if_pos ci.2, en]
    have tail : cavilref15_Chan.j1 (k + 1) ts (ownN l n) false = some (if 1 < (ownN l n).length ∧ kd15 ts (rd (ownN l n) 1) = 64 then 1 else 0) := by
      simp only [cavilref15_Chan.j1]
      rw [if_neg (show ¬ false = true by decide)]
      by_cases c1 : 1 < (ownN l n).length
      · have h1 : 0 ≤ rd (ownN l n) 1 ∧ rd (ownN l n) 1 < (ts.length : Int) := rd_in hin 1 c1
        rw [if_pos (show ((ownN l n).length : Int) > 1 by omega), if_pos (show 1 < ((ownN l n).length : Int) by omega), if_pos h1.1, if_pos h1.2]
        by_cases c2 : kd15 ts (rd (ownN l n) 1) = 64
        · rw [if_pos c2, if_pos ⟨c1, c2⟩]
        · rw [if_neg c2, if_neg (fun h => c2 h.2)]
      · rw [if_neg (show ¬ ((ownN l n).length : Int) > 1 by omega), if_neg (fun h => c1 h.1)]
    by_cases c : (rd_T44 l n).f0 = 26
    · rw [if_pos c, show ((rd_T44 l n).f0 != 26) = false by simp [c], cavilref15_Chan.j0, if_neg (show ¬ false = true by decide)]
      by_cases c0 : 0 < (ownN l n).length
      · have h0 : 0 ≤ rd (ownN l n) 0 ∧ rd (ownN l n) 0 < (ts.length : Int) := rd_in hin 0 c0
        rw [if_pos (show ((ownN l n).length : Int) > 0 by omega), if_pos (show 0 < ((ownN l n).length : Int) by omega), if_pos h0.1, if_pos h0.2]
        by_cases c2 : kd15 ts (rd (ownN l n) 0) = 64
        · rw [show (kd15 ts (rd (ownN l n) 0) == 64) = true from beq_iff_eq.2 c2, if_pos ⟨c0, c2⟩, cavilref15_Chan.j1, if_pos rfl]
        · rw [show (kd15 ts (rd (ownN l n) 0) == 64) = false from beq_eq_false_iff_ne.2 c2, if_neg (fun h => c2 h.2)]
          exact tail
      · rw [if_neg (show ¬ ((ownN l n).length : Int) > 0 by omega), if_neg (fun h => c0 h.1)]
        exact tail
    · rw [if_neg c, show ((rd_T44 l n).f0 != 26) = true by simp [c], cavilref15_Chan.j0, if_pos rfl]
  · have en : (nodeN l n).1 = 0 := by unfold nodeN; rw [if_neg ci]
    rw [if_neg (by simpa using ci), en, if_neg (by omega), cavilref15_Chan.j0, if_pos rfl]
def hasL (ts : List S38) (K : Int) (own : List Int) : Bool := own.any fun i => kd15 ts i == K
theorem has_loop (b : List Int) (ts : List S38) (l : List S44) (K : Int) (own : List Int) (ho : own.length ≤ 100) (hin : ∀ x ∈ own, 0 ≤ x ∧ x < ts.length) : ∀ (d i : Nat), i + d = own.length →
    Ev (fun k => view_File_Has.l0 k (fileOf b ts l) K own (own.length : Int) (i : Int)) (hasL ts K (own.drop i))
  | 0, i, h => by
    refine evConst fun k => ?_
    simp only [view_File_Has.l0]
    rw [if_neg (by omega), List.drop_of_length_le (by omega)]
    rfl
  | d + 1, i, h => by
    have hi : i < own.length := by omega
    have e := rd_nat own i hi
    have hm := hin _ (List.getElem_mem hi)
    have ih := has_loop b ts l K own ho hin d (i + 1) (by omega)
    rw [List.drop_eq_getElem_cons hi]
    unfold hasL
    rw [List.any_cons]
    by_cases c : kd15 ts own[i] = K
    · rw [show (kd15 ts own[i] == K) = true from beq_iff_eq.2 c, Bool.true_or]
      refine evConst fun k => ?_
      simp only [view_File_Has.l0]
      rw [if_pos (by omega), if_pos (by omega), if_pos (by omega), if_pos (one_pos b ts l), e, rd_file]
      dsimp only
      rw [if_pos hm.1, if_pos hm.2, if_pos c]
    · rw [show (kd15 ts own[i] == K) = false from beq_eq_false_iff_ne.2 c, Bool.false_or]
      refine evNext ih fun k => ?_
      simp only [view_File_Has.l0]
      rw [if_pos (by omega), if_pos (by omega), if_pos (by omega), if_pos (one_pos b ts l), e, rd_file]
      dsimp only
      rw [if_pos hm.1, if_pos hm.2, if_neg c, w64_succ hi (show own.length ≤ 9223372036854775807 by omega)]
theorem has_ev (b : List Int) (ts : List S38) (l : List S44) (hf : Fine l ts.length) (ht : ts.length ≤ 100) (n K : Int) : Ev (fun k => view_File_Has.f k (fileOf b ts l) n K) (hasL ts K (ownN l n)) := by
  refine evCong (has_loop b ts l K (ownN l n) (ownN_len hf (by omega) n) (fun x hx => ownN_mem hf hx) (ownN l n).length 0 (by omega)) fun k => ?_
  unfold view_File_Has.f
  rw [if_pos (one_pos b ts l), own_f b ts l hf (by omega), Option.bind_some]
  rfl
theorem vworks_ev : Ev (fun k => cavillaw15_works.f k) true := Ev.of (fun k => cavillaw15_works.mono k) (k := 60) (by decide +kernel)
end Go.Proofs.Ytnpgadfoohjlnaa.Plain
