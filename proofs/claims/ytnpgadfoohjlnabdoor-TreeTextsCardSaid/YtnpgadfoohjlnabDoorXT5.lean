/- Trees, plain: each node's parent. No condition beyond what each lemma says. -/
import Derived.Test.YtnpgadfoohjlnabDoorXT4
namespace Go.Proofs.YtnpgadfoohjlnabDoor.Plain
open Go.RowKit Go.Proofs.YtnpgadfoohjlnabDoorW.PrintWords Go.Proofs.YtnpgadfoohjlnabDoorW.PrintLast Go.Proofs.YtnpgadfoohjlnabDoorW.PrintMore Go.Proofs.YtnpgadfoohjlnabDoor.QX

/-- The last of the first nodes that has a node as its child. -/
def par (l : List S34) : Nat → Nat → Int
  | 0, j => if j + 1 = l.length then -1 else 0
  | i + 1, j => if (j : Int) ∈ (rd_T34 l i).f3 then (i : Int) else par l i j
/-- The first node that has a node as its child. -/
def fpar (l : List S34) (q : Int) : Nat → Nat → Int
  | 0, _ => -1
  | d + 1, i => if q ∈ (rd_T34 l i).f3 then (i : Int) else fpar l q d (i + 1)
/-! the document's -/
/-! they are the same -/
theorem occ_two (l : List S34) (j : Nat) : ∀ i, i ≤ l.length → (occ (l.take i) j = 0 ∧ ∀ q : Nat, q < i → (j : Int) ∉ (rd_T34 l q).f3) ∨ (∃ p : Nat, p < i ∧ (j : Int) ∈ (rd_T34 l p).f3 ∧ ∀ q : Nat, q < i → q ≠ p → (j : Int) ∉ (rd_T34 l q).f3) ∨ 2 ≤ occ (l.take i) j
  | 0, _ => .inl ⟨rfl, fun q h => by omega⟩
  | i + 1, h => by
    have hi : i < l.length := by omega
    have e := rd33_nat l i hi
    rw [occ_take l i hi]
    by_cases c : (j : Int) ∈ l[i].f3
    · have hc : 0 < l[i].f3.count (j : Int) := List.count_pos_iff.2 c
      rcases occ_two l j i (by omega) with ⟨h1, h2⟩ | ⟨p, h1, h2, h3⟩ | h1
      · refine .inr (.inl ⟨i, by omega, by rw [e]; exact c, fun q hq hne => h2 q (by omega)⟩)
      · refine .inr (.inr ?_)
        have : occ (l.take i) j ≠ 0 := fun h0 => by
          rw [show i = p + (i - p) by omega] at h0
          have hp : p < l.length := by omega
          have hz := occ_le_take l j (p + 1) (p + (i - p)) (by omega)
          rw [occ_take l p hp, h0] at hz
          rw [rd33_nat l p hp] at h2
          have := List.count_pos_iff.2 h2
          omega
        omega
      · exact .inr (.inr (by omega))
    · have hc : l[i].f3.count (j : Int) = 0 := List.count_eq_zero.2 c
      rw [hc, Nat.add_zero]
      rcases occ_two l j i (by omega) with ⟨h1, h2⟩ | ⟨p, h1, h2, h3⟩ | h1
      · refine .inl ⟨h1, fun q hq => ?_⟩
        by_cases k : q = i
        · rw [k, e]
          exact c
        · exact h2 q (by omega)
      · refine .inr (.inl ⟨p, by omega, h2, fun q hq hne => ?_⟩)
        by_cases k : q = i
        · rw [k, e]
          exact c
        · exact h3 q (by omega) hne
      · exact .inr (.inr h1)
where occ_le_take (l : List S34) (j : Nat) : ∀ (a b : Nat), a ≤ b → occ (l.take a) j ≤ occ (l.take b) j
  | a, 0, h => by rw [show a = 0 by omega]; exact Nat.le_refl _
  | a, b + 1, h => by
    by_cases c : a = b + 1
    · rw [c]; exact Nat.le_refl _
    · refine Nat.le_trans (occ_le_take l j a b (by omega)) ?_
      by_cases hb : b < l.length
      · rw [occ_take l b hb]; omega
      · rw [List.take_of_length_le (by omega), List.take_of_length_le (by omega)]; exact Nat.le_refl _
theorem par_succ (l : List S34) (i j : Nat) : par l (i + 1) j = if (j : Int) ∈ (rd_T34 l i).f3 then (i : Int) else par l i j := rfl
theorem par_none (l : List S34) (j : Nat) : ∀ i, (∀ q : Nat, q < i → (j : Int) ∉ (rd_T34 l q).f3) → par l i j = par l 0 j
  | 0, _ => rfl
  | i + 1, h => by
    rw [par_succ, if_neg (h i (by omega))]
    exact par_none l j i fun q hq => h q (by omega)
theorem par_at (l : List S34) (j p : Nat) (hp : (j : Int) ∈ (rd_T34 l p).f3) : ∀ i, p < i → (∀ q : Nat, q < i → q ≠ p → (j : Int) ∉ (rd_T34 l q).f3) → par l i j = (p : Int)
  | 0, h, _ => by omega
  | i + 1, h, hq => by
    by_cases c : i = p
    · rw [par, c, if_pos hp]
    · rw [par, if_neg (hq i (by omega) c)]
      exact par_at l j p hp i (by omega) fun q h1 h2 => hq q (by omega) h2
theorem fpar_none (l : List S34) (j : Nat) : ∀ d i, (∀ q : Nat, i ≤ q → q < i + d → (j : Int) ∉ (rd_T34 l q).f3) → fpar l j d i = -1
  | 0, i, _ => rfl
  | d + 1, i, h => by
    rw [fpar, if_neg (h i (by omega) (by omega))]
    exact fpar_none l j d (i + 1) fun q h1 h2 => h q (by omega) (by omega)
theorem fpar_at (l : List S34) (j p : Nat) (hp : (j : Int) ∈ (rd_T34 l p).f3) : ∀ d i, i ≤ p → p < i + d → (∀ q : Nat, i ≤ q → q < i + d → q ≠ p → (j : Int) ∉ (rd_T34 l q).f3) → fpar l j d i = (p : Int)
  | 0, i, h, h2, _ => by omega
  | d + 1, i, h, h2, hq => by
    by_cases c : i = p
    · rw [fpar, c, if_pos hp]
    · rw [fpar, if_neg (hq i (by omega) (by omega) c)]
      exact fpar_at l j p hp d (i + 1) (by omega) (by omega) fun q h1 h2 h3 => hq q (by omega) (by omega) h3
theorem par_eq (l : List S34) {t : Int} (hf : Fine l t) (j : Nat) (hj : j < l.length) : par l l.length j = fpar l j l.length 0 := by
  have root : j + 1 = l.length → ∀ q : Nat, q < l.length → (j : Int) ∉ (rd_T34 l q).f3 := fun h q hq hm => by
    rw [rd33_nat l q hq] at hm
    have := (hf.kid q hq _ hm).2
    omega
  rcases occ_two l j l.length (Nat.le_refl _) with ⟨h1, h2⟩ | ⟨p, h1, h2, h3⟩ | h1
  · rw [List.take_of_length_le (Nat.le_refl _)] at h1
    by_cases c : j + 1 = l.length
    · rw [par_none l j _ h2, fpar_none l j _ _ fun q _ hq => h2 q (by omega), par, if_pos c]
    · have := hf.occ j (by omega)
      omega
  · rw [par_at l j p h2 _ h1 h3, fpar_at l j p h2 _ _ (by omega) (by omega) fun q _ hq hne => h3 q (by omega) hne]
  · rw [List.take_of_length_le (Nat.le_refl _)] at h1
    by_cases c : j + 1 = l.length
    · rw [par_none l j _ (root c), fpar_none l j _ _ fun q _ hq => root c q (by omega), par, if_pos c]
    · have := hf.occ j (by omega)
      omega
end Go.Proofs.YtnpgadfoohjlnabDoor.Plain
