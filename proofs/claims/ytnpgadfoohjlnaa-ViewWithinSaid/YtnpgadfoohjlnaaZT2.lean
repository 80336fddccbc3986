/- Trees, plain: what Check and the document's answer come to. No condition beyond what each lemma says. -/
import Derived.Test.YtnpgadfoohjlnaaZT1
namespace Go.Proofs.Ytnpgadfoohjlnaa.Plain
open Go.RowKit Go.Proofs.YtnpgadfoohjlnaaW.PrintWords Go.Proofs.YtnpgadfoohjlnaaW.PrintLast Go.Proofs.YtnpgadfoohjlnaaW.PrintMore Go.Proofs.Ytnpgadfoohjlnaa.QV

/-- How often a node is a child. -/
def occ (l : List S44) (j : Nat) : Nat := (l.map fun x => x.f3.count (j : Int)).sum
def arr (n : Nat) (c : Nat → Nat) : List Int := (List.range n).map fun j => (c j : Int)
theorem arr_len (n : Nat) (c : Nat → Nat) : (arr n c).length = n := by simp [arr]
theorem arr_get (n : Nat) (c : Nat → Nat) (j : Nat) (h : j < n) : rd (arr n c) (j : Int) = c j := by
  rw [rd_nat _ j (by rw [arr_len]; exact h)]
  simp [arr]
theorem arr_set (n : Nat) (c : Nat → Nat) (j : Nat) : (arr n c).set j ((c j + 1 : Nat) : Int) = arr n (fun m => c m + if m = j then 1 else 0) := by
  apply List.ext_getElem
  · simp [arr]
  · intro i h1 h2
    rw [List.getElem_set]
    simp only [arr, List.getElem_map, List.getElem_range]
    by_cases e : j = i
    · rw [if_pos e, if_pos e.symm, e]
    · rw [if_neg e, if_neg (fun h => e h.symm), Nat.add_zero]
theorem arr_take (n m : Nat) (h : m ≤ n) (c : Nat → Nat) : (arr n c).take m = arr m c := by
  unfold arr
  rw [← List.map_take, List.take_range, Nat.min_eq_left h]
theorem arr_zero (n : Nat) : List.replicate n (0 : Int) = arr n (fun _ => 0) := by
  apply List.ext_getElem
  · simp [arr]
  · intro i h1 h2
    simp [arr]
theorem occ_take (l : List S44) (i : Nat) (h : i < l.length) (j : Nat) : occ (l.take (i + 1)) j = occ (l.take i) j + l[i].f3.count (j : Int) := by
  unfold occ
  rw [List.take_add_one, List.getElem?_eq_getElem h]
  simp only [List.map_append, List.map_cons, List.map_nil, List.sum_append, List.sum_cons, List.sum_nil, Option.toList_some, Nat.add_zero]
theorem Small.occ_le {l : List S44} (h : Small l) (i j : Nat) : occ (l.take i) j ≤ 20 * i := by
  induction i with
  | zero => simp [occ]
  | succ i ih =>
    by_cases hi : i < l.length
    · rw [occ_take l i hi]
      have := h.2 _ (List.getElem_mem hi)
      have := List.count_le_length (a := (j : Int)) (l := l[i].f3)
      omega
    · rw [List.take_of_length_le (by omega)] at ih ⊢
      omega
theorem Small.occ_all {l : List S44} (h : Small l) (j : Nat) : occ l j ≤ 800 := by
  have := h.occ_le l.length j
  rw [List.take_of_length_le (Nat.le_refl _)] at this
  have := h.1
  omega
def firstBad (l : List S44) (t : Int) : Nat → Nat → Option Nat
  | 0, _ => none
  | d + 1, i => if oneOk l i t = true then firstBad l t d (i + 1) else some i
def parBad (l : List S44) : Nat → Nat → Option Nat
  | 0, _ => none
  | d + 1, i => if occ l i = 1 then parBad l d (i + 1) else some i
/-- Which tree may not be: none, there is no node, or which node. -/
def badOf (l : List S44) (t : Int) : Option (Option Nat) :=
  if l = [] then some none else match firstBad l t l.length 0 with
    | some b => some (some b)
    | none => match parBad l (l.length - 1) 0 with
      | some b => some (some b)
      | none => none
def badE : Option (Option Nat) → Option Er
  | none => none
  | some none => some (.no 7)
  | some (some i) => some (.at_ i (.no 8))
def badR : Option (Option Nat) → Int × Int
  | none => (0, -1)
  | some none => (7, -1)
  | some (some i) => (8, i)
theorem oneOk_kids {l : List S44} {i t : Int} (h : oneOk l i t = true) : ∀ k ∈ (rd_T44 l i).f3, 0 ≤ k ∧ k < i := by
  unfold oneOk at h
  split at h
  · rw [kids_both, Bool.and_eq_true] at h
    exact inOk_mem h.1
  · cases h

/-! Check -/
theorem chk_last (n : Nat) (hn : n ≤ 40) (l : List S44) : ∀ (d i : Nat), i + d = n →
    Ev (fun k => tree_Check.l2 k (arr n (occ l)) ((arr n (occ l)).length : Int) (i : Int)) (badE ((parBad l d i).map some))
  | 0, i, h => by
    refine evConst fun k => ?_
    simp only [tree_Check.l2]
    rw [arr_len, if_neg (by omega)]
    rfl
  | d + 1, i, h => by
    have hi : i < n := by omega
    by_cases c : occ l i = 1
    · have r : parBad l (d + 1) i = parBad l d (i + 1) := by
        rw [parBad, if_pos c]
      rw [r]
      refine evNext (chk_last n hn l d (i + 1) (by omega)) (fun k => ?_)
      simp only [tree_Check.l2]
      rw [if_pos (by rw [arr_len]; omega), if_pos (by omega), if_pos (by rw [arr_len]; omega), arr_get _ _ _ hi, if_pos (by omega), w64_succ (n := 100) (by omega) (by omega)]
    · have r : parBad l (d + 1) i = some i := by
        rw [parBad, if_neg c]
      rw [r]
      refine evConst fun k => ?_
      simp only [tree_Check.l2]
      rw [if_pos (by rw [arr_len]; omega), if_pos (by omega), if_pos (by rw [arr_len]; omega), arr_get _ _ _ hi, if_neg (by omega)]
      rfl
theorem chk_inner (l : List S44) (t : Int) (n : Nat) (ks : List Int) (hk : ks.length ≤ 20) (hin : ∀ k ∈ ks, 0 ≤ k ∧ k < n) (x : Int) (T : Nat → Nat) (hT : ∀ j, T j ≤ 1000) (r : Option Er)
    (next : Ev (fun k => tree_Check.l0 k t (arr n T) l (l.length : Int) (wrap64 (x + 1)) l) r) : ∀ (d i : Nat) (c : Nat → Nat), i + d = ks.length → (∀ j, c j + (ks.drop i).count (j : Int) = T j) →
    Ev (fun k => tree_Check.l1 k t (arr n c) l (l.length : Int) x ks (ks.length : Int) (i : Int) l) r
  | 0, i, c, h, hc => by
    have e : c = T := funext fun j => by
      have := hc j
      rw [List.drop_of_length_le (by omega), List.count_nil] at this
      exact this
    rw [e]
    refine evNext next fun k => ?_
    simp only [tree_Check.l1]
    rw [if_neg (by omega)]
  | d + 1, i, c, h, hc => by
    have hi : i < ks.length := by omega
    have hm := hin _ (List.getElem_mem hi)
    obtain ⟨m, hmm⟩ := Int.eq_ofNat_of_zero_le hm.1
    have e := rd_nat ks i hi
    have hd : ∀ j : Nat, (ks.drop i).count (j : Int) = (if j = m then 1 else 0) + (ks.drop (i + 1)).count (j : Int) := fun j => by
      rw [List.drop_eq_getElem_cons hi, List.count_cons, hmm, Nat.add_comm]
      congr 1
      by_cases q : j = m
      · rw [if_pos q, q]; simp
      · rw [if_neg q, if_neg (by simp; omega)]
    refine evNext (chk_inner l t n ks hk hin x T hT r next d (i + 1) (fun j => c j + if j = m then 1 else 0) (by omega) (fun j => ?_)) (fun k => ?_)
    · have := hc j
      rw [hd j] at this
      show c j + (if j = m then 1 else 0) + _ = _
      omega
    · have := hT m
      have := hc m
      simp only [tree_Check.l1]
      rw [if_pos (by omega), if_pos (by omega), if_pos (by omega), e, if_pos (by omega), if_pos (by rw [arr_len]; omega), hmm, Int.toNat_natCast, arr_get n c m (by omega), w64_id (by omega) (by omega), show ((c m : Int) + 1) = ((c m + 1 : Nat) : Int) by omega, arr_set, w64_succ (n := 100) (by omega) (by omega)]
def chkFrom (l : List S44) (t : Int) (d i : Nat) : Option (Option Nat) := match firstBad l t d i with
  | some b => some (some b)
  | none => (parBad l (l.length - 1) 0).map some
theorem chk_outer (l : List S44) (hs : Small l) (h0 : l ≠ []) (t : Int) : ∀ (d i : Nat), i + d = l.length →
    Ev (fun k => tree_Check.l0 k t (arr l.length (occ (l.take i))) l (l.length : Int) (i : Int) l) (badE (chkFrom l t d i))
  | 0, i, h => by
    have hl := hs.1
    have hp : 0 < l.length := List.length_pos_iff.2 h0
    rw [List.take_of_length_le (by omega)]
    have e : chkFrom l t 0 i = (parBad l (l.length - 1) 0).map some := rfl
    rw [e]
    refine evNext (chk_last (l.length - 1) (by omega) l (l.length - 1) 0 (by omega)) fun k => ?_
    simp only [tree_Check.l0]
    have w : wrap64 (((arr l.length (occ l)).length : Int) - 1) = ((l.length - 1 : Nat) : Int) := by
      rw [arr_len, w64_id (by omega) (by omega)]
      omega
    rw [if_neg (by omega), w, if_pos (by omega), if_pos (by rw [arr_len]; omega), Int.toNat_natCast, arr_take _ _ (by omega)]
    rfl
  | d + 1, i, h => by
    have hl := hs.1
    have hi : i < l.length := by omega
    by_cases c : oneOk l i t = true
    · have r : chkFrom l t (d + 1) i = chkFrom l t d (i + 1) := by
        unfold chkFrom
        rw [firstBad, if_pos c]
      rw [r]
      have ih := chk_outer l hs h0 t d (i + 1) (by omega)
      have hk := oneOk_kids c
      have e := rd33_nat l i hi
      rw [e] at hk
      have hn := hs.2 _ (List.getElem_mem hi)
      refine evNext ((one_ev l hs i t (by omega) (by omega)).bind (f := fun k t126 => if t126 = true then tree_Check.l1 k t (arr l.length (occ (l.take i))) l (l.length : Int) (i : Int) (rd_T44 l i).f3 ((rd_T44 l i).f3.length : Int) 0 l else some (some (Er.at_ i (Er.no 8)))) ?_) (fun k => ?_)
      · rw [c, e]
        refine evCong (chk_inner l t l.length l[i].f3 hn (fun k hk' => ⟨(hk k hk').1, by have := (hk k hk').2; omega⟩) i (fun j => occ (l.take (i + 1)) j) (fun j => by have := hs.occ_le (i + 1) j; omega) _ ?_ l[i].f3.length 0 (occ (l.take i)) (by omega) (fun j => ?_)) (fun k => if_pos rfl)
        · rw [w64_succ (n := 100) (by omega) (by omega)]
          exact ih
        · rw [List.drop_zero]
          exact (occ_take l i hi j).symm
      · simp only [tree_Check.l0]
        rw [if_pos (by omega), if_pos (by omega), if_pos (by omega)]
    · have r : chkFrom l t (d + 1) i = some (some i) := by
        unfold chkFrom
        rw [firstBad, if_neg c]
      rw [r]
      refine evNext ((one_ev l hs i t (by omega) (by omega)).bind (f := fun k t126 => if t126 = true then tree_Check.l1 k t (arr l.length (occ (l.take i))) l (l.length : Int) (i : Int) (rd_T44 l i).f3 ((rd_T44 l i).f3.length : Int) 0 l else some (some (Er.at_ i (Er.no 8)))) ?_) (fun k => ?_)
      · exact evCong (Ev.now _) (fun k => if_neg c)
      · simp only [tree_Check.l0]
        rw [if_pos (by omega), if_pos (by omega), if_pos (by omega)]
theorem badOf_from {l : List S44} (h0 : l ≠ []) (t : Int) : badOf l t = chkFrom l t l.length 0 := by
  unfold badOf chkFrom
  rw [if_neg h0]
  cases firstBad l t l.length 0 with
  | some b => rfl
  | none => cases parBad l (l.length - 1) 0 <;> rfl
theorem check_ev (l : List S44) (hs : Small l) (t : Int) : Ev (fun k => tree_Check.f k l t) (badE (badOf l t)) := by
  have hl := hs.1
  by_cases h0 : l = []
  · subst h0
    refine evCong (Ev.now _) fun k => ?_
    unfold tree_Check.f
    rw [if_pos (by simp)]
    rfl
  · have hp : 0 < l.length := List.length_pos_iff.2 h0
    rw [badOf_from h0]
    refine evCong (chk_outer l hs h0 t l.length 0 (by omega)) fun k => ?_
    unfold tree_Check.f
    rw [if_neg (by omega), if_pos (by omega), if_pos (by omega), Int.toNat_natCast, arr_zero]
    rfl

/-! the document's -/
theorem bad_coded (b : Option (Option Nat)) : Coded (badE b) (badR b).1 := by
  rcases b with _ | _ | i
  · rfl
  · exact ⟨.no 7, by decide, by decide⟩
  · exact ⟨.at_ _ 8, by show (1 : Int) ≤ 8; omega, by show (8 : Int) ≤ 25; omega⟩
end Go.Proofs.Ytnpgadfoohjlnaa.Plain
