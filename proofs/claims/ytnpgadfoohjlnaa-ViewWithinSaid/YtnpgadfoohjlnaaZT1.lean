/- Trees, plain: a node's own numbers, the parents' numbers, which tree may be. No condition beyond what each lemma says. -/
import Derived.Test.YtnpgadfoohjlnaaZC1
import Derived.Test.YtnpgadfoohjlnaaQV4
namespace Go.Proofs.Ytnpgadfoohjlnaa.Plain
open Go.RowKit Go.Proofs.YtnpgadfoohjlnaaW.PrintWords Go.Proofs.YtnpgadfoohjlnaaW.PrintLast Go.Proofs.YtnpgadfoohjlnaaW.PrintMore Go.Proofs.Ytnpgadfoohjlnaa.QV

/-- Children in order behind a place, each of an earlier node. -/
def kidsOk (l : List S44) (i : Int) : Int → List Int → Int → Bool
  | a, [], z => decide (a ≤ z)
  | a, k :: ks, z => if 0 ≤ k ∧ k < i ∧ a ≤ (rd_T44 l k).f1 then kidsOk l i (rd_T44 l k).f2 ks z else false
def headOk (x : S44) (t : Int) : Prop := 0 ≤ x.f0 ∧ x.f0 ≤ 66 ∧ 0 ≤ x.f1 ∧ x.f1 ≤ x.f2 ∧ x.f2 ≤ t
instance (x : S44) (t : Int) : Decidable (headOk x t) := by unfold headOk; infer_instance
def oneOk (l : List S44) (i t : Int) : Bool := if headOk (rd_T44 l i) t then kidsOk l i (rd_T44 l i).f1 (rd_T44 l i).f3 (rd_T44 l i).f2 else false
/-- A tree that the laws look at: so many nodes, so many children each. -/
def Small (l : List S44) : Prop := l.length ≤ 40 ∧ ∀ x ∈ l, x.f3.length ≤ 20
theorem rd33_nat (l : List S44) (i : Nat) (h : i < l.length) : rd_T44 l (i : Int) = l[i] := by
  unfold rd_T44
  rw [Int.toNat_natCast, List.getD_eq_getElem?_getD, List.getElem?_eq_getElem h]
  rfl
theorem Small.kids {l : List S44} (h : Small l) (i : Int) (h0 : 0 ≤ i) (h1 : i < l.length) : (rd_T44 l i).f3.length ≤ 20 := by
  obtain ⟨n, rfl⟩ := Int.eq_ofNat_of_zero_le h0
  rw [rd33_nat l n (by omega)]
  exact h.2 _ (List.getElem_mem _)

theorem one_loop (l : List S44) (x1 : Int) (hx : x1 ≤ l.length) (ks : List Int) (hk : ks.length ≤ 20) (f0 f1 f2 : Int) : ∀ (d i : Nat) (a : Int), i + d = ks.length →
    Ev (fun k => tree_one.l0 k x1 a ks (ks.length : Int) (i : Int) l f0 f1 f2 ks) (kidsOk l x1 a (ks.drop i) f2)
  | 0, i, a, h => by
    refine evConst fun k => ?_
    simp only [tree_one.l0]
    rw [if_neg (by omega), List.drop_of_length_le (by omega)]
    rfl
  | d + 1, i, a, h => by
    have hi : i < ks.length := by omega
    rw [List.drop_eq_getElem_cons hi]
    have e := rd_nat ks i hi
    by_cases c : 0 ≤ ks[i] ∧ ks[i] < x1 ∧ a ≤ (rd_T44 l ks[i]).f1
    · have r : kidsOk l x1 a (ks[i] :: ks.drop (i + 1)) f2 = kidsOk l x1 (rd_T44 l ks[i]).f2 (ks.drop (i + 1)) f2 := by
        rw [kidsOk, if_pos c]
      rw [r]
      refine evNext (one_loop l x1 hx ks hk f0 f1 f2 d (i + 1) _ (by omega)) (fun k => ?_)
      simp only [tree_one.l0]
      rw [if_pos (by omega), if_pos (by omega), if_pos (by omega), e, if_neg (by omega), if_neg (by omega), if_pos (by omega), if_pos (by omega), if_neg (by omega), w64_succ (n := 100) (by omega) (by omega)]
    · have r : kidsOk l x1 a (ks[i] :: ks.drop (i + 1)) f2 = false := by
        rw [kidsOk, if_neg c]
      rw [r]
      refine evConst fun k => ?_
      simp only [tree_one.l0]
      rw [if_pos (by omega), if_pos (by omega), if_pos (by omega), e]
      by_cases c1 : ks[i] < 0
      · rw [if_pos c1]
      · rw [if_neg c1]
        by_cases c2 : ks[i] ≥ x1
        · rw [if_pos c2]
        · rw [if_neg c2, if_pos (by omega), if_pos (by omega), if_pos (by omega)]
theorem one_ev (l : List S44) (hs : Small l) (i t : Int) (h0 : 0 ≤ i) (h1 : i < l.length) : Ev (fun k => tree_one.f k l i t) (oneOk l i t) := by
  have hk := hs.kids i h0 h1
  have bad : Ev (fun k => tree_one.j0 k i true l ((rd_T44 l i).f0) ((rd_T44 l i).f1) ((rd_T44 l i).f2) ((rd_T44 l i).f3)) false := evConst fun k => by
    simp only [tree_one.j0]
    rw [if_pos trivial]
  have good : Ev (fun k => tree_one.j0 k i false l ((rd_T44 l i).f0) ((rd_T44 l i).f1) ((rd_T44 l i).f2) ((rd_T44 l i).f3)) (kidsOk l i (rd_T44 l i).f1 (rd_T44 l i).f3 (rd_T44 l i).f2) :=
    evNext (one_loop l i (by omega) (rd_T44 l i).f3 hk (rd_T44 l i).f0 (rd_T44 l i).f1 (rd_T44 l i).f2 (rd_T44 l i).f3.length 0 (rd_T44 l i).f1 (by omega)) fun k => by
      simp only [tree_one.j0]
      rw [if_neg (by simp)]
      rfl
  by_cases c : headOk (rd_T44 l i) t
  · obtain ⟨a, b, c1, d, e⟩ := c
    have r : oneOk l i t = kidsOk l i (rd_T44 l i).f1 (rd_T44 l i).f3 (rd_T44 l i).f2 := by
      unfold oneOk
      rw [if_pos ⟨a, b, c1, d, e⟩]
    rw [r]
    refine evCong good fun k => ?_
    unfold tree_one.f
    rw [if_pos h0, if_pos h1, if_neg (by omega), if_neg (by omega), if_neg (by omega), if_neg (by omega), decide_eq_false (by omega)]
  · have r : oneOk l i t = false := by
      unfold oneOk
      rw [if_neg c]
    rw [r]
    refine evCong bad fun k => ?_
    unfold tree_one.f
    rw [if_pos h0, if_pos h1]
    by_cases a : (rd_T44 l i).f0 < 0
    · rw [if_pos a]
    · rw [if_neg a]
      by_cases b : (rd_T44 l i).f0 > 66
      · rw [if_pos b]
      · rw [if_neg b]
        by_cases c1 : (rd_T44 l i).f1 < 0
        · rw [if_pos c1]
        · rw [if_neg c1]
          by_cases d : (rd_T44 l i).f1 > (rd_T44 l i).f2
          · rw [if_pos d]
          · rw [if_neg d, decide_eq_true (by unfold headOk at c; omega)]
/-! the document's -/
def inOk (i : Int) : List Int → Bool
  | [] => true
  | k :: ks => if 0 ≤ k ∧ k < i then inOk i ks else false
def chain (l : List S44) : Int → List Int → Int → Bool
  | a, [], z => decide (a ≤ z)
  | a, k :: ks, z => if a ≤ (rd_T44 l k).f1 then chain l (rd_T44 l k).f2 ks z else false
theorem kids_both (l : List S44) (i z : Int) : ∀ (ks : List Int) (a : Int), kidsOk l i a ks z = (inOk i ks && chain l a ks z)
  | [], a => by simp [kidsOk, inOk, chain]
  | k :: ks, a => by
    rw [kidsOk, inOk, chain, kids_both l i z ks]
    by_cases c : 0 ≤ k ∧ k < i
    · by_cases d : a ≤ (rd_T44 l k).f1
      · rw [if_pos ⟨c.1, c.2, d⟩, if_pos c, if_pos d]
      · rw [if_neg (fun h => d h.2.2), if_pos c, if_neg d]
        simp
    · rw [if_neg (fun h => c ⟨h.1, h.2.1⟩), if_neg c]
      simp
theorem inOk_mem {i : Int} : ∀ {ks : List Int}, inOk i ks = true → ∀ k ∈ ks, 0 ≤ k ∧ k < i
  | [], _, k, hk => by cases hk
  | x :: ks, h, k, hk => by
    rw [inOk] at h
    split at h
    · rename_i c
      rcases List.mem_cons.1 hk with rfl | hk
      · exact c
      · exact inOk_mem h k hk
    · cases h
end Go.Proofs.Ytnpgadfoohjlnaa.Plain
