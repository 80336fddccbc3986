/- Map, Back, Grow of the layer edit and of its reference, plain: what they come to. No condition beyond what each lemma says. -/
import Derived.Test.YtnpgadfoohjlnaaR0
import Derived.Test.YtnpgadfoohjlnaaQA8
import Derived.Test.YtnpgadfoohjlnaaQA9
import Derived.Test.YtnpgadfoohjlnaaQA7
namespace Go.Proofs.Ytnpgadfoohjlnaa.Plain
open Go.RowKit Go.Proofs.YtnpgadfoohjlnaaW.PrintWords Go.Proofs.YtnpgadfoohjlnaaW.PrintLast Go.Proofs.YtnpgadfoohjlnaaW.PrintMore Go.Proofs.Ytnpgadfoohjlnaa.QA

theorem rd64 (l : List S64) (i : Nat) (h : i < l.length) : rd_T64 l (i : Int) = l[i] := by
  unfold rd_T64
  rw [Int.toNat_natCast, List.getD_eq_getElem?_getD, List.getElem?_eq_getElem h]
  rfl
/-- By how much an edit makes a file longer. -/
def more (x : S64) : Int := (x.f2.size : Int) - (x.f1 - x.f0)
def gstep (n : Int) (x : S64) : Int := wrap64 (n + more x)
def grow (l : List S64) : Int := l.foldl gstep 0
theorem more_f (x : S64) : edit_more.f x.f0 x.f1 x.f2 = some (wrap64 (more x)) := by
  unfold edit_more.f more
  rw [w64_sub_r]
theorem drop_cons {α : Type} (l : List α) (i : Nat) (h : i < l.length) : l.drop i = l[i] :: l.drop (i + 1) := List.drop_eq_getElem_cons h
theorem grow_loop (l : List S64) (hl : l.length ≤ 9223372036854775807) : ∀ (d i : Nat) (n : Int), i + d = l.length → Ev (fun k => edit_Grow.l0 k n l (l.length : Int) (i : Int)) ((l.drop i).foldl gstep n)
  | 0, i, n, h => by
    refine evConst fun k => ?_
    simp only [edit_Grow.l0]
    rw [if_neg (by omega), List.drop_of_length_le (by omega)]
    rfl
  | d + 1, i, n, h => by
    have hi : i < l.length := by omega
    rw [drop_cons l i hi, List.foldl_cons]
    refine evNext (grow_loop l hl d (i + 1) (gstep n l[i]) (by omega)) (fun k => ?_)
    simp only [edit_Grow.l0]
    rw [if_pos (by omega), if_pos (by omega), if_pos (by omega), rd64 l i hi, more_f, Option.bind_some, w64_add_r, w64_succ hi hl]
    rfl
theorem grow_ev (l : List S64) (hl : l.length ≤ 9223372036854775807) : Ev (fun k => edit_Grow.f k l) (grow l) := grow_loop l hl l.length 0 0 (by omega)
theorem rgrow_loop (l : List S64) (hl : l.length ≤ 9223372036854775807) : ∀ (d i : Nat) (n : Int), i + d = l.length → Ev (fun k => cavilref04_Grow.l0 k l n (i : Int)) ((l.drop i).foldl gstep n)
  | 0, i, n, h => by
    refine evConst fun k => ?_
    simp only [cavilref04_Grow.l0]
    rw [if_neg (by omega), List.drop_of_length_le (by omega)]
    rfl
  | d + 1, i, n, h => by
    have hi : i < l.length := by omega
    rw [drop_cons l i hi, List.foldl_cons]
    refine evNext (rgrow_loop l hl d (i + 1) (gstep n l[i]) (by omega)) (fun k => ?_)
    simp only [cavilref04_Grow.l0]
    rw [if_pos (by omega), if_pos (by omega), rd64 l i hi, w64_sub_l, w64_sub_r, w64_succ hi hl]
    unfold gstep more
    rw [show n + (l[i].f2.size : Int) - (l[i].f1 - l[i].f0) = n + ((l[i].f2.size : Int) - (l[i].f1 - l[i].f0)) by omega]
theorem rgrow_ev (l : List S64) (hl : l.length ≤ 9223372036854775807) : Ev (fun k => cavilref04_Grow.f k l) (grow l) := rgrow_loop l hl l.length 0 0 (by omega)
theorem grow_take (l : List S64) (i : Nat) (h : i < l.length) : grow (l.take (i + 1)) = gstep (grow (l.take i)) l[i] := by
  unfold grow
  rw [List.take_succ_eq_append_getElem h, List.foldl_append]
  rfl
theorem grow_one (l : List S64) (i : Nat) (h : i < l.length) : grow ((l.take (i + 1)).drop i) = wrap64 (more l[i]) := by
  rw [List.take_succ_eq_append_getElem h, List.drop_append_of_le_length (by rw [List.length_take]; omega), List.drop_of_length_le (by rw [List.length_take]; omega)]
  show gstep 0 l[i] = _
  unfold gstep
  rw [Int.zero_add]
theorem len_take_le {l : List S64} (hl : l.length ≤ 9223372036854775807) (i : Nat) : (l.take i).length ≤ 9223372036854775807 := by
  rw [List.length_take]
  omega
theorem len_mid_le {l : List S64} (hl : l.length ≤ 9223372036854775807) (i j : Nat) : ((l.take i).drop j).length ≤ 9223372036854775807 := by
  rw [List.length_drop, List.length_take]
  omega
/-- Where a place is behind edits: g: what the edits ahead grow by; n: by how much the place has moved. -/
def mapGo (off : Int) : List S64 → Int → Int → Int × Bool
  | [], _, n => (wrap64 (off + n), true)
  | x :: r, g, n => if x.f0 ≤ off ∧ off < x.f1 then (wrap64 (x.f0 + g), false) else mapGo off r (gstep g x) (if x.f1 ≤ off then gstep n x else n)
theorem map_loop (l : List S64) (off : Int) (hl : l.length ≤ 9223372036854775807) : ∀ (d i : Nat) (n : Int), i + d = l.length → Ev (fun k => edit_Map.l0 k l off n l (l.length : Int) (i : Int)) (mapGo off (l.drop i) (grow (l.take i)) n)
  | 0, i, n, h => by
    refine evConst fun k => ?_
    simp only [edit_Map.l0]
    rw [if_neg (by omega), List.drop_of_length_le (by omega)]
    rfl
  | d + 1, i, n, h => by
    have hi : i < l.length := by omega
    rw [drop_cons l i hi]
    unfold mapGo
    have ih := fun m => map_loop l off hl d (i + 1) m (by omega)
    rw [grow_take l i hi] at ih
    have hj : ∀ b : Bool, b = decide (l[i].f0 ≤ off ∧ off < l[i].f1) → Ev (fun k => edit_Map.j1 k l off n (i : Int) l (l.length : Int) (i : Int) b l[i].f0 l[i].f1 l[i].f2) (if l[i].f0 ≤ off ∧ off < l[i].f1 then (wrap64 (l[i].f0 + grow (l.take i)), false) else mapGo off (l.drop (i + 1)) (gstep (grow (l.take i)) l[i]) (if l[i].f1 ≤ off then gstep n l[i] else n)) := by
      intro b hb
      by_cases c : l[i].f0 ≤ off ∧ off < l[i].f1
      · rw [if_pos c]
        rw [decide_eq_true c] at hb
        subst hb
        refine evNext (f := fun k => (edit_Grow.f k (l.take i)).bind fun t => some (wrap64 (l[i].f0 + t), false)) ?_ (fun k => ?_)
        · exact Ev.bind (f := fun _ t => some (wrap64 (l[i].f0 + t), false)) (grow_ev _ (len_take_le hl i)) (Ev.now _)
        · simp only [edit_Map.j1]
          rw [if_pos trivial, if_pos (by omega), if_pos (by omega), Int.toNat_natCast]
      · rw [if_neg c]
        rw [decide_eq_false c] at hb
        subst hb
        by_cases c2 : l[i].f1 ≤ off
        · rw [if_pos c2]
          refine evNext (ih _) (fun k => ?_)
          simp only [edit_Map.j1]
          rw [if_neg (by simp), if_pos c2, more_f, Option.bind_some, w64_add_r, w64_succ hi hl]
          rfl
        · rw [if_neg c2]
          refine evNext (ih _) (fun k => ?_)
          simp only [edit_Map.j1]
          rw [if_neg (by simp), if_neg c2, w64_succ hi hl]
    by_cases c1 : l[i].f0 ≤ off
    · refine evNext (hj (decide (off < l[i].f1)) (by simp [c1])) (fun k => ?_)
      simp only [edit_Map.l0]
      rw [if_pos (by omega), if_pos (by omega), if_pos (by omega), rd64 l i hi, if_pos c1]
    · refine evNext (hj false (by simp [c1])) (fun k => ?_)
      simp only [edit_Map.l0]
      rw [if_pos (by omega), if_pos (by omega), if_pos (by omega), rd64 l i hi, if_neg c1]
theorem map_ev (l : List S64) (off : Int) (hl : l.length ≤ 9223372036854775807) : Ev (fun k => edit_Map.f k l off) (mapGo off l 0 0) := map_loop l off hl l.length 0 0 (by omega)
/-- The reference: the first edit that has the place. -/
def findGo (off : Int) : List S64 → Int → Option (Int × Bool)
  | [], _ => none
  | x :: r, g => if x.f0 ≤ off ∧ off < x.f1 then some (wrap64 (x.f0 + g), false) else findGo off r (gstep g x)
def sumGo (off : Int) (n : Int) (l : List S64) : Int := l.foldl (fun n x => if x.f1 ≤ off then wrap64 (n + more x) else n) n
theorem rmap_sum (l : List S64) (off : Int) (hl : l.length ≤ 9223372036854775807) : ∀ (d i : Nat) (n : Int), i + d = l.length → Ev (fun k => cavilref04_Map.l1 k l off n (i : Int)) (sumGo off n (l.drop i), true)
  | 0, i, n, h => by
    refine evConst fun k => ?_
    simp only [cavilref04_Map.l1]
    rw [if_neg (by omega), List.drop_of_length_le (by omega)]
    rfl
  | d + 1, i, n, h => by
    have hi : i < l.length := by omega
    rw [drop_cons l i hi]
    unfold sumGo
    rw [List.foldl_cons]
    have ih := fun m => rmap_sum l off hl d (i + 1) m (by omega)
    by_cases c : l[i].f1 ≤ off
    · rw [if_pos c]
      refine evNext (f := fun k => (cavilref04_Grow.f k ((l.take (i + 1)).drop i)).bind fun t => cavilref04_Map.l1 k l off (wrap64 (n + t)) ((i + 1 : Nat) : Int)) ?_ (fun k => ?_)
      · refine Ev.bind (f := fun k t => cavilref04_Map.l1 k l off (wrap64 (n + t)) ((i + 1 : Nat) : Int)) (rgrow_ev _ (len_mid_le hl _ _)) ?_
        rw [grow_one l i hi, w64_add_r]
        exact ih _
      · simp only [cavilref04_Map.l1]
        rw [if_pos (by omega), if_pos (by omega), rd64 l i hi, if_pos c, w64_succ hi hl, if_pos (by omega), if_pos (by omega), Int.toNat_natCast, Int.toNat_natCast]
    · rw [if_neg c]
      refine evNext (ih n) (fun k => ?_)
      simp only [cavilref04_Map.l1]
      rw [if_pos (by omega), if_pos (by omega), rd64 l i hi, if_neg c, w64_succ hi hl]
theorem rmap_loop (l : List S64) (off : Int) (hl : l.length ≤ 9223372036854775807) : ∀ (d i : Nat), i + d = l.length → Ev (fun k => cavilref04_Map.l0 k l off (i : Int)) ((findGo off (l.drop i) (grow (l.take i))).getD (sumGo off off l, true))
  | 0, i, h => by
    rw [List.drop_of_length_le (by omega)]
    refine evNext (rmap_sum l off hl l.length 0 off (by omega)) (fun k => ?_)
    simp only [cavilref04_Map.l0]
    rw [if_neg (by omega)]
    rfl
  | d + 1, i, h => by
    have hi : i < l.length := by omega
    rw [drop_cons l i hi]
    unfold findGo
    have ih := rmap_loop l off hl d (i + 1) (by omega)
    rw [grow_take l i hi] at ih
    by_cases c : l[i].f0 ≤ off ∧ off < l[i].f1
    · rw [if_pos c]
      refine evNext (f := fun k => (cavilref04_Grow.f k (l.take i)).bind fun t => some (wrap64 (l[i].f0 + t), false)) ?_ (fun k => ?_)
      · exact Ev.bind (f := fun _ t => some (wrap64 (l[i].f0 + t), false)) (rgrow_ev _ (len_take_le hl i)) (Ev.now _)
      · simp only [cavilref04_Map.l0]
        rw [if_pos (by omega), if_pos (by omega), rd64 l i hi, if_pos c.1, if_pos c.2, if_pos (by omega), Int.toNat_natCast]
    · rw [if_neg c]
      refine evNext ih (fun k => ?_)
      simp only [cavilref04_Map.l0]
      rw [if_pos (by omega), if_pos (by omega), rd64 l i hi, w64_succ hi hl]
      by_cases c1 : l[i].f0 ≤ off
      · rw [if_pos c1, if_neg (fun h => c ⟨c1, h⟩)]
      · rw [if_neg c1]
theorem rmap_ev (l : List S64) (off : Int) (hl : l.length ≤ 9223372036854775807) : Ev (fun k => cavilref04_Map.f k l off) ((findGo off l 0).getD (sumGo off off l, true)) := rmap_loop l off hl l.length 0 (by omega)
theorem mapGo_eq (off : Int) : ∀ (l : List S64) (g n : Int), mapGo off l g n = (findGo off l g).getD (sumGo off (wrap64 (off + n)) l, true)
  | [], g, n => rfl
  | x :: r, g, n => by
    unfold mapGo findGo sumGo
    rw [List.foldl_cons]
    by_cases c : x.f0 ≤ off ∧ off < x.f1
    · rw [if_pos c, if_pos c]
      rfl
    · rw [if_neg c, if_neg c, mapGo_eq off r]
      by_cases c2 : x.f1 ≤ off
      · rw [if_pos c2, if_pos c2]
        unfold gstep sumGo
        rw [w64_add_r, w64_add_l, Int.add_assoc]
      · rw [if_neg c2, if_neg c2]
        rfl
/-- Where a place was ahead of edits. -/
def backGo (off : Int) : List S64 → Int → Int → Int × Bool
  | [], _, n => (wrap64 (off - n), true)
  | x :: r, g, n => if wrap64 (x.f0 + g) ≤ off ∧ off < wrap64 (wrap64 (x.f0 + g) + x.f2.size) then (x.f0, false) else backGo off r (gstep g x) (if wrap64 (wrap64 (x.f0 + g) + x.f2.size) ≤ off then gstep n x else n)
theorem back_loop (l : List S64) (off : Int) (hl : l.length ≤ 9223372036854775807) : ∀ (d i : Nat) (g n : Int), i + d = l.length → Ev (fun k => edit_Back.l0 k off n g l (l.length : Int) (i : Int)) (backGo off (l.drop i) g n)
  | 0, i, g, n, h => by
    refine evConst fun k => ?_
    simp only [edit_Back.l0]
    rw [if_neg (by omega), List.drop_of_length_le (by omega)]
    rfl
  | d + 1, i, g, n, h => by
    have hi : i < l.length := by omega
    rw [drop_cons l i hi]
    unfold backGo
    have ih := fun g m => back_loop l off hl d (i + 1) g m (by omega)
    have hj : ∀ b : Bool, b = decide (wrap64 (l[i].f0 + g) ≤ off ∧ off < wrap64 (wrap64 (l[i].f0 + g) + l[i].f2.size)) → Ev (fun k => edit_Back.j1 k off n g (wrap64 (wrap64 (l[i].f0 + g) + l[i].f2.size)) l (l.length : Int) (i : Int) b l[i].f0 l[i].f1 l[i].f2)
        (if wrap64 (l[i].f0 + g) ≤ off ∧ off < wrap64 (wrap64 (l[i].f0 + g) + l[i].f2.size) then (l[i].f0, false) else backGo off (l.drop (i + 1)) (gstep g l[i]) (if wrap64 (wrap64 (l[i].f0 + g) + l[i].f2.size) ≤ off then gstep n l[i] else n)) := by
      intro b hb
      by_cases c : wrap64 (l[i].f0 + g) ≤ off ∧ off < wrap64 (wrap64 (l[i].f0 + g) + l[i].f2.size)
      · rw [if_pos c]
        rw [decide_eq_true c] at hb
        subst hb
        refine evConst (fun k => ?_)
        simp only [edit_Back.j1]
        rw [if_pos trivial]
      · rw [if_neg c]
        rw [decide_eq_false c] at hb
        subst hb
        by_cases c2 : wrap64 (wrap64 (l[i].f0 + g) + l[i].f2.size) ≤ off
        · rw [if_pos c2]
          refine evNext (ih _ _) (fun k => ?_)
          simp only [edit_Back.j1]
          rw [if_neg (by simp), if_pos c2, more_f, Option.bind_some, Option.bind_some, w64_add_r, w64_add_r, w64_succ hi hl]
          rfl
        · rw [if_neg c2]
          refine evNext (ih _ _) (fun k => ?_)
          simp only [edit_Back.j1]
          rw [if_neg (by simp), if_neg c2, more_f, Option.bind_some, w64_add_r, w64_succ hi hl]
          rfl
    by_cases c1 : wrap64 (l[i].f0 + g) ≤ off
    · refine evNext (hj (decide (off < wrap64 (wrap64 (l[i].f0 + g) + l[i].f2.size))) (by simp [c1])) (fun k => ?_)
      simp only [edit_Back.l0]
      rw [if_pos (by omega), if_pos (by omega), if_pos (by omega), rd64 l i hi, if_pos c1]
    · refine evNext (hj false (by simp [c1])) (fun k => ?_)
      simp only [edit_Back.l0]
      rw [if_pos (by omega), if_pos (by omega), if_pos (by omega), rd64 l i hi, if_neg c1]
theorem back_ev (l : List S64) (off : Int) (hl : l.length ≤ 9223372036854775807) : Ev (fun k => edit_Back.f k l off) (backGo off l 0 0) := back_loop l off hl l.length 0 0 0 (by omega)
def bfindGo (off : Int) : List S64 → Int → Option (Int × Bool)
  | [], _ => none
  | x :: r, g => if wrap64 (x.f0 + g) ≤ off ∧ off < wrap64 (wrap64 (x.f0 + g) + x.f2.size) then some (x.f0, false) else bfindGo off r (gstep g x)
def bsumGo (off : Int) : List S64 → Int → Int → Int
  | [], _, n => n
  | x :: r, g, n => bsumGo off r (gstep g x) (if wrap64 (wrap64 (x.f0 + g) + x.f2.size) ≤ off then wrap64 (n - more x) else n)
theorem rback_sum (l : List S64) (off : Int) (hl : l.length ≤ 9223372036854775807) : ∀ (d i : Nat) (n : Int), i + d = l.length → Ev (fun k => cavilref04_Back.l1 k l off n (i : Int)) (bsumGo off (l.drop i) (grow (l.take i)) n, true)
  | 0, i, n, h => by
    refine evConst fun k => ?_
    simp only [cavilref04_Back.l1]
    rw [if_neg (by omega), List.drop_of_length_le (by omega)]
    rfl
  | d + 1, i, n, h => by
    have hi : i < l.length := by omega
    rw [drop_cons l i hi]
    unfold bsumGo
    have ih := fun m => rback_sum l off hl d (i + 1) m (by omega)
    rw [grow_take l i hi] at ih
    refine evNext (f := fun k => (cavilref04_Grow.f k (l.take i)).bind fun t => if wrap64 (wrap64 (l[i].f0 + t) + l[i].f2.size) ≤ off then ((cavilref04_Grow.f k ((l.take (i + 1)).drop i)).bind fun u => cavilref04_Back.l1 k l off (wrap64 (n - u)) ((i + 1 : Nat) : Int)) else cavilref04_Back.l1 k l off n ((i + 1 : Nat) : Int)) ?_ (fun k => ?_)
    · refine Ev.bind (f := fun k t => if wrap64 (wrap64 (l[i].f0 + t) + l[i].f2.size) ≤ off then ((cavilref04_Grow.f k ((l.take (i + 1)).drop i)).bind fun u => cavilref04_Back.l1 k l off (wrap64 (n - u)) ((i + 1 : Nat) : Int)) else cavilref04_Back.l1 k l off n ((i + 1 : Nat) : Int)) (rgrow_ev _ (len_take_le hl i)) ?_
      refine evIte (fun c => ?_) (fun c => ?_)
      · rw [if_pos c]
        refine Ev.bind (f := fun k u => cavilref04_Back.l1 k l off (wrap64 (n - u)) ((i + 1 : Nat) : Int)) (rgrow_ev _ (len_mid_le hl _ _)) ?_
        rw [grow_one l i hi, w64_sub_r]
        exact ih _
      · rw [if_neg c]
        exact ih _
    · simp only [cavilref04_Back.l1]
      rw [if_pos (by omega), if_pos (by omega), rd64 l i hi, if_pos (by omega), w64_succ hi hl, Int.toNat_natCast, Int.toNat_natCast, if_pos (by omega), if_pos (by omega)]
theorem rback_loop (l : List S64) (off : Int) (hl : l.length ≤ 9223372036854775807) : ∀ (d i : Nat), i + d = l.length → Ev (fun k => cavilref04_Back.l0 k l off (i : Int)) ((bfindGo off (l.drop i) (grow (l.take i))).getD (bsumGo off l 0 off, true))
  | 0, i, h => by
    rw [List.drop_of_length_le (by omega)]
    refine evNext (rback_sum l off hl l.length 0 off (by omega)) (fun k => ?_)
    simp only [cavilref04_Back.l0]
    rw [if_neg (by omega)]
    rfl
  | d + 1, i, h => by
    have hi : i < l.length := by omega
    rw [drop_cons l i hi]
    unfold bfindGo
    have ih := rback_loop l off hl d (i + 1) (by omega)
    rw [grow_take l i hi] at ih
    refine evNext (f := fun k => (cavilref04_Grow.f k (l.take i)).bind fun t => if wrap64 (l[i].f0 + t) ≤ off then (if off < wrap64 (wrap64 (l[i].f0 + t) + l[i].f2.size) then some (l[i].f0, false) else cavilref04_Back.l0 k l off ((i + 1 : Nat) : Int)) else cavilref04_Back.l0 k l off ((i + 1 : Nat) : Int)) ?_ (fun k => ?_)
    · refine Ev.bind (f := fun k t => if wrap64 (l[i].f0 + t) ≤ off then (if off < wrap64 (wrap64 (l[i].f0 + t) + l[i].f2.size) then some (l[i].f0, false) else cavilref04_Back.l0 k l off ((i + 1 : Nat) : Int)) else cavilref04_Back.l0 k l off ((i + 1 : Nat) : Int)) (rgrow_ev _ (len_take_le hl i)) ?_
      refine evIte (fun c1 => evIte (fun c2 => ?_) (fun c2 => ?_)) (fun c1 => ?_)
      · rw [if_pos ⟨c1, c2⟩]
        exact Ev.now _
      · rw [if_neg (fun h => c2 h.2)]
        exact ih
      · rw [if_neg (fun h => c1 h.1)]
        exact ih
    · simp only [cavilref04_Back.l0]
      rw [if_pos (by omega), if_pos (by omega), if_pos (by omega), rd64 l i hi, w64_succ hi hl, Int.toNat_natCast]
theorem rback_ev (l : List S64) (off : Int) (hl : l.length ≤ 9223372036854775807) : Ev (fun k => cavilref04_Back.f k l off) ((bfindGo off l 0).getD (bsumGo off l 0 off, true)) := rback_loop l off hl l.length 0 (by omega)
theorem backGo_eq (off : Int) : ∀ (l : List S64) (g n : Int), backGo off l g n = (bfindGo off l g).getD (bsumGo off l g (wrap64 (off - n)), true)
  | [], g, n => rfl
  | x :: r, g, n => by
    unfold backGo bfindGo bsumGo
    by_cases c : wrap64 (x.f0 + g) ≤ off ∧ off < wrap64 (wrap64 (x.f0 + g) + x.f2.size)
    · rw [if_pos c, if_pos c]
      rfl
    · rw [if_neg c, if_neg c, backGo_eq off r]
      by_cases c2 : wrap64 (wrap64 (x.f0 + g) + x.f2.size) ≤ off
      · rw [if_pos c2, if_pos c2]
        unfold gstep
        rw [w64_sub_r, w64_sub_l, show off - (n + more x) = off - n - more x by omega]
      · rw [if_neg c2, if_neg c2]
/-- What 'few' leaves: not more than a dozen edits. -/
def fewOne (x : S64) : S64 := ⟨x.f0, x.f1, x.f2.extract 0 (mn (x.f2.size : Int) 40).toNat⟩
theorem mn_bd (n : Nat) : 0 ≤ mn (n : Int) 40 ∧ mn (n : Int) 40 ≤ n := by
  unfold mn
  split <;> omega
theorem few_loop (l : List S64) : ∀ (d i : Nat) (acc : List S64), i + d = 12 → acc.length ≤ i → Ev (fun k => cavillaw04_few.l0 k l acc (i : Int)) (acc ++ ((l.drop i).take d).map fewOne)
  | 0, i, acc, h, ha => by
    refine evConst fun k => ?_
    simp only [cavillaw04_few.l0]
    rw [List.take_zero, List.map_nil, List.append_nil]
    by_cases c : (i : Int) < (l.length : Int)
    · rw [if_pos c, if_neg (by omega)]
    · rw [if_neg c]
  | d + 1, i, acc, h, ha => by
    by_cases hi : i < l.length
    · rw [drop_cons l i hi, List.take_succ_cons, List.map_cons]
      have ih := few_loop l d (i + 1) (acc ++ [fewOne l[i]]) (by omega) (by rw [List.length_append, List.length_singleton]; omega)
      rw [List.append_assoc, List.singleton_append] at ih
      refine evNext ih (fun k => ?_)
      simp only [cavillaw04_few.l0]
      rw [if_pos (by omega), if_pos (by omega), if_pos (by omega), rd64 l i hi, if_pos (mn_bd _).1, if_pos (mn_bd _).2, if_pos (by omega), w64_succ (n := 12) (by omega) (by omega)]
      rfl
    · refine evConst fun k => ?_
      simp only [cavillaw04_few.l0]
      rw [if_neg (by omega), List.drop_of_length_le (by omega), List.take_nil, List.map_nil, List.append_nil]
def fewOf (l : List S64) : List S64 := (l.take 12).map fewOne
theorem few_ev (l : List S64) : Ev (fun k => cavillaw04_few.f k l) (fewOf l) := few_loop l 12 0 [] (by omega) (by simp)
theorem few_len (l : List S64) : (fewOf l).length ≤ 12 := by
  unfold fewOf
  rw [List.length_map, List.length_take]
  omega
end Go.Proofs.Ytnpgadfoohjlnaa.Plain
