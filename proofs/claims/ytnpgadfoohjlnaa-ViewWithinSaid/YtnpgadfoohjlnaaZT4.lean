/- Trees, plain: how deep, and each node's parent. No condition beyond what each lemma says. -/
import Derived.Test.YtnpgadfoohjlnaaZT3
namespace Go.Proofs.Ytnpgadfoohjlnaa.Plain
open Go.RowKit Go.Proofs.YtnpgadfoohjlnaaW.PrintWords Go.Proofs.YtnpgadfoohjlnaaW.PrintLast Go.Proofs.YtnpgadfoohjlnaaW.PrintMore Go.Proofs.Ytnpgadfoohjlnaa.QV

/-- Which tree may not be, by its root's tokens. -/
def badRoot (l : List S44) : Option (Option Nat) := badOf l (rd_T44 l ((l.length - 1 : Nat) : Int)).f2
theorem firstBad_none {l : List S44} {t : Int} : ∀ {d i : Nat}, firstBad l t d i = none → ∀ j, i ≤ j → j < i + d → oneOk l (j : Int) t = true
  | 0, i, _, j, h1, h2 => by omega
  | d + 1, i, h, j, h1, h2 => by
    rw [firstBad] at h
    split at h
    · rename_i c
      by_cases e : j = i
      · rw [e]
        exact c
      · exact firstBad_none h j (by omega) (by omega)
    · cases h
theorem parBad_none {l : List S44} : ∀ {d i : Nat}, parBad l d i = none → ∀ j, i ≤ j → j < i + d → occ l j = 1
  | 0, i, _, j, h1, h2 => by omega
  | d + 1, i, h, j, h1, h2 => by
    rw [parBad] at h
    split at h
    · rename_i c
      by_cases e : j = i
      · rw [e]
        exact c
      · exact parBad_none h j (by omega) (by omega)
    · cases h
/-- A tree that may be. -/
structure Fine (l : List S44) (t : Int) : Prop where
  ne : 0 < l.length
  one : ∀ i : Nat, i < l.length → oneOk l (i : Int) t = true
  occ : ∀ i : Nat, i + 1 < l.length → occ l i = 1
theorem fine_of {l : List S44} {t : Int} (h : badOf l t = none) : Fine l t := by
  unfold badOf at h
  split at h
  · cases h
  · rename_i h0
    have hp : 0 < l.length := List.length_pos_iff.2 h0
    split at h
    · cases h
    · rename_i h1
      split at h
      · cases h
      · rename_i h2
        exact ⟨hp, fun i hi => firstBad_none h1 i (by omega) (by omega), fun i hi => parBad_none h2 i (by omega) (by omega)⟩
theorem Fine.kid {l : List S44} {t : Int} (h : Fine l t) (i : Nat) (hi : i < l.length) : ∀ k ∈ l[i].f3, 0 ≤ k ∧ k < (i : Int) := by
  have := oneOk_kids (h.one i hi)
  rw [rd33_nat l i hi] at this
  exact this
/-! how deep -/
def most (g : Int → Int) (ks : List Int) (m : Int) : Int := ks.foldl (fun m k => mx m (g k)) m
/-- How deep a node is. -/
def dp (l : List S44) : Nat → Int → Int
  | 0, _ => 0
  | f + 1, i => 1 + most (dp l f) (rd_T44 l i).f3 0
theorem mx_le {a b c : Int} (h : a ≤ c) (h' : b ≤ c) : mx a b ≤ c := by unfold mx; split <;> assumption
theorem mx_ge {a b c : Int} (h : c ≤ a) : c ≤ mx a b := by unfold mx; split <;> omega
theorem most_bd {g : Int → Int} {c : Int} (hg : ∀ k, g k ≤ c) : ∀ (ks : List Int) (m : Int), 0 ≤ m → m ≤ c → 0 ≤ most g ks m ∧ most g ks m ≤ c
  | [], _, h0, h1 => ⟨h0, h1⟩
  | k :: ks, m, h0, h1 => most_bd hg ks (mx m (g k)) (mx_ge h0) (mx_le h1 (hg k))
theorem dp_bd (l : List S44) : ∀ (f : Nat) (i : Int), 0 ≤ dp l f i ∧ dp l f i ≤ f
  | 0, i => ⟨Int.le_refl _, Int.le_refl _⟩
  | f + 1, i => by
    have := most_bd (fun k => (dp_bd l f k).2) (rd_T44 l i).f3 0 (by omega) (by omega)
    rw [dp]
    omega
theorem most_congr {g g' : Int → Int} : ∀ (ks : List Int) (m : Int), (∀ k ∈ ks, g k = g' k) → most g ks m = most g' ks m
  | [], _, _ => rfl
  | k :: ks, m, h => by
    show most g ks (mx m (g k)) = most g' ks (mx m (g' k))
    rw [h k (List.mem_cons_self ..), most_congr ks _ fun x hx => h x (List.mem_cons_of_mem _ hx)]
theorem dp_eq {l : List S44} {t : Int} (hf : Fine l t) : ∀ (f g i : Nat), i < l.length → i < f → i < g → dp l f i = dp l g i
  | 0, g, i, _, h, _ => by omega
  | f + 1, 0, i, _, _, h => by omega
  | f + 1, g + 1, i, hi, h1, h2 => by
    rw [dp, dp, rd33_nat l i hi]
    congr 1
    refine most_congr _ _ fun k hk => ?_
    obtain ⟨a, b⟩ := hf.kid i hi k hk
    obtain ⟨n, rfl⟩ := Int.eq_ofNat_of_zero_le a
    exact dp_eq hf f g n (by omega) (by omega) (by omega)
/-! arrays of numbers -/
def iarr (n : Nat) (c : Nat → Int) : List Int := (List.range n).map c
theorem iarr_len (n : Nat) (c : Nat → Int) : (iarr n c).length = n := by simp [iarr]
theorem iarr_get (n : Nat) (c : Nat → Int) (j : Nat) (h : j < n) : rd (iarr n c) (j : Int) = c j := by
  rw [rd_nat _ j (by rw [iarr_len]; exact h)]
  simp [iarr]
theorem iarr_set (n : Nat) (c : Nat → Int) (j : Nat) (v : Int) : (iarr n c).set j v = iarr n (fun m => if m = j then v else c m) := by
  apply List.ext_getElem
  · simp [iarr]
  · intro i h1 h2
    rw [List.getElem_set]
    simp only [iarr, List.getElem_map, List.getElem_range]
    by_cases e : j = i
    · rw [if_pos e, if_pos e.symm]
    · rw [if_neg e, if_neg (fun h => e h.symm)]
theorem iarr_zero (n : Nat) : List.replicate n (0 : Int) = iarr n (fun _ => 0) := by
  apply List.ext_getElem
  · simp [iarr]
  · intro i h1 h2
    simp [iarr]
end Go.Proofs.Ytnpgadfoohjlnaa.Plain
