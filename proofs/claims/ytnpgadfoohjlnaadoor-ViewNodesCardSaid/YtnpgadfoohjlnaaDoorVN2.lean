/- A file's nodes, plain: operators, directions, kinds of tokens; the law on them. No condition beyond what each lemma says. -/
import Derived.Test.YtnpgadfoohjlnaaDoorVN1
import Derived.Test.YtnpgadfoohjlnaaDoorQV10
import Derived.Test.YtnpgadfoohjlnaaDoorQV12
namespace Go.Proofs.YtnpgadfoohjlnaaDoor.Plain
open Go.RowKit Go.Proofs.YtnpgadfoohjlnaaDoorW.PrintWords Go.Proofs.YtnpgadfoohjlnaaDoorW.PrintLast Go.Proofs.YtnpgadfoohjlnaaDoorW.PrintMore Go.Proofs.YtnpgadfoohjlnaaDoor.QV

abbrev kd15 (ts : List S103) (i : Int) : Int := (rd_T103 ts i).f0
/-- The ten signs that are no operators. -/
abbrev sign (k : Int) : Prop := 78 ≤ k ∧ k ≤ 87
abbrev signs : ByteArray := ⟨#[40, 32, 41, 32, 91, 32, 93, 32, 123, 32, 125, 32, 44, 32, 46, 32, 58, 32, 59, 32]⟩
def opL (ts : List S103) : List Int → Int
  | [] => 0
  | i :: is => if sign (kd15 ts i) then opL ts is else kd15 ts i
theorem op_j1 (b : List Int) (ts : List S103) (l : List S33) (K : Int) (own : List Int) (n i : Int) (f : Bool) (r : Int)
    (next : f = true ∨ K = 81 ∨ K = 82 ∨ K = 87 ∨ K = 86 → Ev (fun k => view_File_Op.l0 k (fileOf b ts l) own n (wrap64 (i + 1))) r) (stop : ¬ (f = true ∨ K = 81 ∨ K = 82 ∨ K = 87 ∨ K = 86) → r = K) :
    Ev (fun k => view_File_Op.j1 k (fileOf b ts l) K own n i K f) r := by
  by_cases c : f = true ∨ K = 81 ∨ K = 82 ∨ K = 87 ∨ K = 86
  · refine evNext (next c) fun k => ?_
    simp only [view_File_Op.j1]
    by_cases c0 : f = true
    · rw [if_pos c0]
    · rw [if_neg c0]
      by_cases c1 : K = 81
      · rw [if_pos c1]
      · rw [if_neg c1]
        by_cases c2 : K = 82
        · rw [if_pos c2]
        · rw [if_neg c2]
          by_cases c3 : K = 87
          · rw [if_pos c3]
          · rw [if_neg c3, if_pos (by have := c.resolve_left c0; omega)]
  · rw [stop c]
    refine evConst fun k => ?_
    simp only [view_File_Op.j1]
    rw [if_neg (fun h => c (.inl h)), if_neg (fun h => c (by omega)), if_neg (fun h => c (by omega)), if_neg (fun h => c (by omega)), if_neg (fun h => c (by omega))]
theorem op_loop (b : List Int) (ts : List S103) (l : List S33) (own : List Int) (ho : own.length ≤ 100) (hin : ∀ x ∈ own, 0 ≤ x ∧ x < ts.length) : ∀ (d i : Nat), i + d = own.length →
    Ev (fun k => view_File_Op.l0 k (fileOf b ts l) own (own.length : Int) (i : Int)) (opL ts (own.drop i))
  | 0, i, h => by
    refine evConst fun k => ?_
    simp only [view_File_Op.l0]
    rw [if_neg (by omega), List.drop_of_length_le (by omega)]
    rfl
  | d + 1, i, h => by
    have hi : i < own.length := by omega
    have e := rd_nat own i hi
    have hm := hin _ (List.getElem_mem hi)
    have ih := op_loop b ts l own ho hin d (i + 1) (by omega)
    rw [List.drop_eq_getElem_cons hi]
    have w := w64_succ hi (show own.length ≤ 9223372036854775807 by omega)
    have next : ∀ (f : Bool), (f = true ↔ kd15 ts own[i] = 78 ∨ kd15 ts own[i] = 79 ∨ kd15 ts own[i] = 80 ∨ kd15 ts own[i] = 83 ∨ kd15 ts own[i] = 84 ∨ kd15 ts own[i] = 85) → Ev (fun k => view_File_Op.j1 k (fileOf b ts l) (kd15 ts own[i]) own (own.length : Int) (i : Int) (kd15 ts own[i]) f) (opL ts (own[i] :: own.drop (i + 1))) := fun f hf => by
      refine op_j1 b ts l _ own _ _ f _ (fun c => ?_) (fun c => ?_)
      · rw [w, opL, if_pos (by rw [hf] at c; omega)]
        exact ih
      · rw [opL, if_neg (by rw [hf] at c; omega)]
    refine evNext (f := fun k => view_File_Op.j1 k (fileOf b ts l) (kd15 ts own[i]) own (own.length : Int) (i : Int) (kd15 ts own[i]) (decide (kd15 ts own[i] = 78 ∨ kd15 ts own[i] = 79 ∨ kd15 ts own[i] = 80 ∨ kd15 ts own[i] = 83 ∨ kd15 ts own[i] = 84 ∨ kd15 ts own[i] = 85))) (next _ decide_eq_true_iff) fun k => ?_
    simp only [view_File_Op.l0]
    rw [if_pos (by omega), if_pos (by omega), if_pos (by omega), if_pos (one_pos b ts l), e, rd_file]
    dsimp only
    rw [if_pos hm.1, if_pos hm.2]
    by_cases c0 : kd15 ts own[i] = 78
    · rw [if_pos c0, decide_eq_true (by omega), show (kd15 ts own[i] == 78) = true from beq_iff_eq.2 c0]
    · rw [if_neg c0]
      by_cases c1 : kd15 ts own[i] = 83
      · rw [if_pos c1, decide_eq_true (by omega), show (kd15 ts own[i] == 83) = true from beq_iff_eq.2 c1]
      · rw [if_neg c1]
        by_cases c2 : kd15 ts own[i] = 79
        · rw [if_pos c2, decide_eq_true (by omega), show (kd15 ts own[i] == 79) = true from beq_iff_eq.2 c2]
        · rw [if_neg c2]
          by_cases c3 : kd15 ts own[i] = 84
          · rw [if_pos c3, decide_eq_true (by omega), show (kd15 ts own[i] == 84) = true from beq_iff_eq.2 c3]
          · rw [if_neg c3]
            by_cases c4 : kd15 ts own[i] = 80
            · rw [if_pos c4, decide_eq_true (by omega), show (kd15 ts own[i] == 80) = true from beq_iff_eq.2 c4]
            · rw [if_neg c4]
              by_cases c5 : kd15 ts own[i] = 85
              · rw [decide_eq_true (by omega), show (kd15 ts own[i] == 85) = true from beq_iff_eq.2 c5]
              · rw [decide_eq_false (by omega), show (kd15 ts own[i] == 85) = false from beq_eq_false_iff_ne.2 c5]
theorem op_ev (b : List Int) (ts : List S103) (l : List S33) (hf : Fine l ts.length) (ht : ts.length ≤ 100) (n : Int) : Ev (fun k => view_File_Op.f k (fileOf b ts l) n) (opL ts (ownN l n)) := by
  refine evCong (op_loop b ts l (ownN l n) (ownN_len hf (by omega) n) (fun x hx => ownN_mem hf hx) (ownN l n).length 0 (by omega)) fun k => ?_
  unfold view_File_Op.f
  rw [if_pos (one_pos b ts l), own_f b ts l hf (by omega), Option.bind_some]
  rfl
/-- A channel's direction. -/
def chanN (ts : List S103) (l : List S33) (n : Int) : Int :=
  if (nodeN l n).1 = 26 then (if 0 < (ownN l n).length ∧ kd15 ts (rd (ownN l n) 0) = 64 then 2 else if 1 < (ownN l n).length ∧ kd15 ts (rd (ownN l n) 1) = 64 then 1 else 0) else 0
theorem rd_in {own : List Int} {t : Int} (hin : ∀ x ∈ own, 0 ≤ x ∧ x < t) (i : Nat) (h : i < own.length) : 0 ≤ rd own (i : Int) ∧ rd own (i : Int) < t := by
  rw [rd_nat own i h]
  exact hin _ (List.getElem_mem h)
def hasL (ts : List S103) (K : Int) (own : List Int) : Bool := own.any fun i => kd15 ts i == K
theorem vworks_ev : Ev (fun k => cavillaw15_works.f k) true := Ev.of (fun k => cavillaw15_works.mono k) (k := 60) (by decide +kernel)
end Go.Proofs.YtnpgadfoohjlnaaDoor.Plain
