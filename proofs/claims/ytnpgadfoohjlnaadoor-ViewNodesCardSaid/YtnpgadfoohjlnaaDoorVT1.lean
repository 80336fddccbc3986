/- Trees, plain: a node's own numbers, the parents' numbers, which tree may be. No condition beyond what each lemma says. -/
import Derived.Test.YtnpgadfoohjlnaaDoorVC1
import Derived.Test.YtnpgadfoohjlnaaDoorQV6
import Derived.Test.YtnpgadfoohjlnaaDoorQV3
import Derived.Test.YtnpgadfoohjlnaaDoorQV2
namespace Go.Proofs.YtnpgadfoohjlnaaDoor.Plain
open Go.RowKit Go.Proofs.YtnpgadfoohjlnaaDoorW.PrintWords Go.Proofs.YtnpgadfoohjlnaaDoorW.PrintLast Go.Proofs.YtnpgadfoohjlnaaDoorW.PrintMore Go.Proofs.YtnpgadfoohjlnaaDoor.QV

/-- Children in order behind a place, each of an earlier node. -/
def kidsOk (l : List S33) (i : Int) : Int → List Int → Int → Bool
  | a, [], z => decide (a ≤ z)
  | a, k :: ks, z => if 0 ≤ k ∧ k < i ∧ a ≤ (rd_T33 l k).f1 then kidsOk l i (rd_T33 l k).f2 ks z else false
def headOk (x : S33) (t : Int) : Prop := 0 ≤ x.f0 ∧ x.f0 ≤ 66 ∧ 0 ≤ x.f1 ∧ x.f1 ≤ x.f2 ∧ x.f2 ≤ t
instance (x : S33) (t : Int) : Decidable (headOk x t) := by unfold headOk; infer_instance
def oneOk (l : List S33) (i t : Int) : Bool := if headOk (rd_T33 l i) t then kidsOk l i (rd_T33 l i).f1 (rd_T33 l i).f3 (rd_T33 l i).f2 else false
/-- A tree that the laws look at: so many nodes, so many children each. -/
def Small (l : List S33) : Prop := l.length ≤ 40 ∧ ∀ x ∈ l, x.f3.length ≤ 20
theorem rd33_nat (l : List S33) (i : Nat) (h : i < l.length) : rd_T33 l (i : Int) = l[i] := by
  unfold rd_T33
  rw [Int.toNat_natCast, List.getD_eq_getElem?_getD, List.getElem?_eq_getElem h]
  rfl
theorem Small.kids {l : List S33} (h : Small l) (i : Int) (h0 : 0 ≤ i) (h1 : i < l.length) : (rd_T33 l i).f3.length ≤ 20 := by
  obtain ⟨n, rfl⟩ := Int.eq_ofNat_of_zero_le h0
  rw [rd33_nat l n (by omega)]
  exact h.2 _ (List.getElem_mem _)

theorem one_loop (l : List S33) (x1 : Int) (hx : x1 ≤ l.length) (ks : List Int) (hk : ks.length ≤ 20) (f0 f1 f2 : Int) : ∀ (d i : Nat) (a : Int), i + d = ks.length →
    Ev (fun k => tree_one.l0 k x1 a ks (ks.length : Int) (i : Int) l f0 f1 f2 ks) (kidsOk l x1 a (ks.drop i) f2)
  | 0, i, a, h => by
    refine evConst fun k => ?_
    simp only [tree_one.l0]
    rw [if_neg (by omega), List.drop_of_length_le (by omega)]
    rfl
  | d + 1, i, a, h => by
    have hi : i < ks.length := by omega
    rw [List.drop_eq_getElem_cons hi]
    have e := rd_nat ks i hi
    by_cases c : 0 ≤ ks[i] ∧ ks[i] < x1 ∧ a ≤ (rd_T33 l ks[i]).f1
    · have r : kidsOk l x1 a (ks[i] :: ks.drop (i + 1)) f2 = kidsOk l x1 (rd_T33 l ks[i]).f2 (ks.drop (i + 1)) f2 := by
        rw [kidsOk, if_pos c]
      rw [r]
      refine evNext (one_loop l x1 hx ks hk f0 f1 f2 d (i + 1) _ (by omega)) (fun k => ?_)
      simp only [tree_one.l0]
      rw [if_pos (by omega), if_pos (by omega), if_pos (by omega), e, if_neg (by omega), if_neg (by omega), if_pos (by omega), if_pos (by omega), if_neg (by omega), w64_succ (n := 100) (by omega) (by omega)]
    · have r : kidsOk l x1 a (ks[i] :: ks.drop (i + 1)) f2 = false := by
        rw [kidsOk, if_neg c]
      rw [r]
      refine evConst fun k => ?_
      simp only [tree_one.l0]
      rw [if_pos (by omega), if_pos (by omega), if_pos (by omega), e]
      by_cases c1 : ks[i] < 0
      · rw [if_pos c1]
      · rw [if_neg c1]
        by_cases c2 : ks[i] ≥ x1
        · rw [if_pos c2]
        · rw [if_neg c2, if_pos (by omega), if_pos (by omega), if_pos (by omega)]
theorem one_ev (l : List S33) (hs : Small l) (i t : Int) (h0 : 0 ≤ i) (h1 : i < l.length) : Ev (fun k => tree_one.f k l i t) (oneOk l i t) := by
  have hk := hs.kids i h0 h1
  have bad : Ev (fun k => tree_one.j0 k i true l ((rd_T33 l i).f0) ((rd_T33 l i).f1) ((rd_T33 l i).f2) ((rd_T33 l i).f3)) false := evConst fun k => by
    simp only [tree_one.j0]
    rw [if_pos trivial]
  have good : Ev (fun k => tree_one.j0 k i false l ((rd_T33 l i).f0) ((rd_T33 l i).f1) ((rd_T33 l i).f2) ((rd_T33 l i).f3)) (kidsOk l i (rd_T33 l i).f1 (rd_T33 l i).f3 (rd_T33 l i).f2) :=
    evNext (one_loop l i (by omega) (rd_T33 l i).f3 hk (rd_T33 l i).f0 (rd_T33 l i).f1 (rd_T33 l i).f2 (rd_T33 l i).f3.length 0 (rd_T33 l i).f1 (by omega)) fun k => by
      simp only [tree_one.j0]
      rw [if_neg (by simp)]
      rfl
  by_cases c : headOk (rd_T33 l i) t
  · obtain ⟨a, b, c1, d, e⟩ := c
    have r : oneOk l i t = kidsOk l i (rd_T33 l i).f1 (rd_T33 l i).f3 (rd_T33 l i).f2 := by
      unfold oneOk
      rw [if_pos ⟨a, b, c1, d, e⟩]
    rw [r]
    refine evCong good fun k => ?_
    unfold tree_one.f
    rw [if_pos h0, if_pos h1, if_neg (by omega), if_neg (by omega), if_neg (by omega), if_neg (by omega), decide_eq_false (by omega)]
  · have r : oneOk l i t = false := by
      unfold oneOk
      rw [if_neg c]
    rw [r]
    refine evCong bad fun k => ?_
    unfold tree_one.f
    rw [if_pos h0, if_pos h1]
    by_cases a : (rd_T33 l i).f0 < 0
    · rw [if_pos a]
    · rw [if_neg a]
      by_cases b : (rd_T33 l i).f0 > 66
      · rw [if_pos b]
      · rw [if_neg b]
        by_cases c1 : (rd_T33 l i).f1 < 0
        · rw [if_pos c1]
        · rw [if_neg c1]
          by_cases d : (rd_T33 l i).f1 > (rd_T33 l i).f2
          · rw [if_pos d]
          · rw [if_neg d, decide_eq_true (by unfold headOk at c; omega)]
/-! the document's -/
def inOk (i : Int) : List Int → Bool
  | [] => true
  | k :: ks => if 0 ≤ k ∧ k < i then inOk i ks else false
def chain (l : List S33) : Int → List Int → Int → Bool
  | a, [], z => decide (a ≤ z)
  | a, k :: ks, z => if a ≤ (rd_T33 l k).f1 then chain l (rd_T33 l k).f2 ks z else false
theorem kids_both (l : List S33) (i z : Int) : ∀ (ks : List Int) (a : Int), kidsOk l i a ks z = (inOk i ks && chain l a ks z)
  | [], a => by simp [kidsOk, inOk, chain]
  | k :: ks, a => by
    rw [kidsOk, inOk, chain, kids_both l i z ks]
    by_cases c : 0 ≤ k ∧ k < i
    · by_cases d : a ≤ (rd_T33 l k).f1
      · rw [if_pos ⟨c.1, c.2, d⟩, if_pos c, if_pos d]
      · rw [if_neg (fun h => d h.2.2), if_pos c, if_neg d]
        simp
    · rw [if_neg (fun h => c ⟨h.1, h.2.1⟩), if_neg c]
      simp
theorem inOk_mem {i : Int} : ∀ {ks : List Int}, inOk i ks = true → ∀ k ∈ ks, 0 ≤ k ∧ k < i
  | [], _, k, hk => by cases hk
  | x :: ks, h, k, hk => by
    rw [inOk] at h
    split at h
    · rename_i c
      rcases List.mem_cons.1 hk with rfl | hk
      · exact c
      · exact inOk_mem h k hk
    · cases h
theorem rone_chain (l : List S33) (ks : List Int) (hk : ks.length ≤ 20) (f0 f1 f2 : Int) (hin : ∀ k ∈ ks, 0 ≤ k ∧ k < l.length) : ∀ (d i : Nat) (a : Int), i + d = ks.length →
    Ev (fun k => cavilref13_one.l1 k a (i : Int) l f0 f1 f2 ks) (chain l a (ks.drop i) f2)
  | 0, i, a, h => by
    refine evConst fun k => ?_
    simp only [cavilref13_one.l1]
    rw [if_neg (by omega), List.drop_of_length_le (by omega)]
    rfl
  | d + 1, i, a, h => by
    have hi : i < ks.length := by omega
    rw [List.drop_eq_getElem_cons hi]
    have e := rd_nat ks i hi
    have hm := hin _ (List.getElem_mem hi)
    by_cases c : a ≤ (rd_T33 l ks[i]).f1
    · have r : chain l a (ks[i] :: ks.drop (i + 1)) f2 = chain l (rd_T33 l ks[i]).f2 (ks.drop (i + 1)) f2 := by
        rw [chain, if_pos c]
      rw [r]
      refine evNext (rone_chain l ks hk f0 f1 f2 hin d (i + 1) _ (by omega)) (fun k => ?_)
      simp only [cavilref13_one.l1]
      rw [if_pos (by omega), if_pos (by omega), e, if_pos hm.1, if_pos hm.2, if_neg (by omega), w64_succ (n := 100) (by omega) (by omega)]
    · have r : chain l a (ks[i] :: ks.drop (i + 1)) f2 = false := by
        rw [chain, if_neg c]
      rw [r]
      refine evConst fun k => ?_
      simp only [cavilref13_one.l1]
      rw [if_pos (by omega), if_pos (by omega), e, if_pos hm.1, if_pos hm.2, if_pos (by omega)]
theorem rone_in (l : List S33) (x1 : Int) (hx : x1 ≤ l.length) (ks : List Int) (hk : ks.length ≤ 20) (f0 f1 f2 : Int) : ∀ (d i : Nat), i + d = ks.length → (∀ k ∈ ks.take i, 0 ≤ k ∧ k < x1) →
    Ev (fun k => cavilref13_one.l0 k x1 (i : Int) l f0 f1 f2 ks) (inOk x1 (ks.drop i) && chain l f1 ks f2)
  | 0, i, h, hin => by
    rw [List.take_of_length_le (by omega)] at hin
    rw [List.drop_of_length_le (by omega)]
    refine evNext (rone_chain l ks hk f0 f1 f2 (fun k hk => ⟨(hin k hk).1, by have := (hin k hk).2; omega⟩) ks.length 0 f1 (by omega)) fun k => ?_
    simp only [cavilref13_one.l0]
    rw [if_neg (by omega)]
    rfl
  | d + 1, i, h, hin => by
    have hi : i < ks.length := by omega
    rw [List.drop_eq_getElem_cons hi]
    have e := rd_nat ks i hi
    by_cases c : 0 ≤ ks[i] ∧ ks[i] < x1
    · have r : inOk x1 (ks[i] :: ks.drop (i + 1)) = inOk x1 (ks.drop (i + 1)) := by
        rw [inOk, if_pos c]
      rw [r]
      refine evNext (rone_in l x1 hx ks hk f0 f1 f2 d (i + 1) (by omega) ?_) (fun k => ?_)
      · rw [List.take_add_one, List.getElem?_eq_getElem hi]
        intro k hk
        rcases List.mem_append.1 hk with hk | hk
        · exact hin k hk
        · simp at hk
          rw [hk]
          exact c
      · simp only [cavilref13_one.l0]
        rw [if_pos (by omega), if_pos (by omega), e, if_neg (by omega), if_neg (by omega), w64_succ (n := 100) (by omega) (by omega)]
    · have r : inOk x1 (ks[i] :: ks.drop (i + 1)) = false := by
        rw [inOk, if_neg c]
      rw [r, Bool.false_and]
      refine evConst fun k => ?_
      simp only [cavilref13_one.l0]
      rw [if_pos (by omega), if_pos (by omega), e]
      by_cases c1 : ks[i] < 0
      · rw [if_pos c1]
      · rw [if_neg c1, if_pos (by omega)]
theorem rone_ev (l : List S33) (hs : Small l) (i t : Int) (h0 : 0 ≤ i) (h1 : i < l.length) : Ev (fun k => cavilref13_one.f k l i t) (oneOk l i t) := by
  have hk := hs.kids i h0 h1
  have bad : Ev (fun k => cavilref13_one.j0 k i true l ((rd_T33 l i).f0) ((rd_T33 l i).f1) ((rd_T33 l i).f2) ((rd_T33 l i).f3)) false := evConst fun k => by
    simp only [cavilref13_one.j0]
    rw [if_pos trivial]
  have good : Ev (fun k => cavilref13_one.j0 k i false l ((rd_T33 l i).f0) ((rd_T33 l i).f1) ((rd_T33 l i).f2) ((rd_T33 l i).f3)) (kidsOk l i (rd_T33 l i).f1 (rd_T33 l i).f3 (rd_T33 l i).f2) := by
    rw [kids_both]
    refine evNext (rone_in l i (by omega) (rd_T33 l i).f3 hk (rd_T33 l i).f0 (rd_T33 l i).f1 (rd_T33 l i).f2 (rd_T33 l i).f3.length 0 (by omega) (by simp)) fun k => ?_
    simp only [cavilref13_one.j0]
    rw [if_neg (by simp)]
    rfl
  by_cases c : headOk (rd_T33 l i) t
  · obtain ⟨a, b, c1, d, e⟩ := c
    have r : oneOk l i t = kidsOk l i (rd_T33 l i).f1 (rd_T33 l i).f3 (rd_T33 l i).f2 := by
      unfold oneOk
      rw [if_pos ⟨a, b, c1, d, e⟩]
    rw [r]
    refine evCong good fun k => ?_
    unfold cavilref13_one.f
    rw [if_pos h0, if_pos h1, if_neg (by omega), if_neg (by omega), if_neg (by omega), if_neg (by omega), decide_eq_false (by omega)]
  · have r : oneOk l i t = false := by
      unfold oneOk
      rw [if_neg c]
    rw [r]
    refine evCong bad fun k => ?_
    unfold cavilref13_one.f
    rw [if_pos h0, if_pos h1]
    by_cases a : (rd_T33 l i).f0 < 0
    · rw [if_pos a]
    · rw [if_neg a]
      by_cases b : (rd_T33 l i).f0 > 66
      · rw [if_pos b]
      · rw [if_neg b]
        by_cases c1 : (rd_T33 l i).f1 < 0
        · rw [if_pos c1]
        · rw [if_neg c1]
          by_cases d : (rd_T33 l i).f1 > (rd_T33 l i).f2
          · rw [if_pos d]
          · rw [if_neg d, decide_eq_true (by unfold headOk at c; omega)]
end Go.Proofs.YtnpgadfoohjlnaaDoor.Plain
