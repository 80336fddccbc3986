/- The law TreeChecks, plain: true for every input. No condition beyond what each lemma says. -/
import Derived.Test.YtnpgadfoohjlnaaDoorT2
import Derived.Test.YtnpgadfoohjlnaaDoorQT1
import Derived.Test.YtnpgadfoohjlnaaDoorQT5
import Derived.Test.YtnpgadfoohjlnaaDoorQT6
import Derived.Test.YtnpgadfoohjlnaaDoorQT7
namespace Go.Proofs.YtnpgadfoohjlnaaDoor.Plain
open Go.RowKit Go.Proofs.YtnpgadfoohjlnaaDoorW.PrintWords Go.Proofs.YtnpgadfoohjlnaaDoorW.PrintLast Go.Proofs.YtnpgadfoohjlnaaDoorW.PrintMore Go.Proofs.YtnpgadfoohjlnaaDoor.QT

def cut (x : S33) : S33 := ⟨x.f0, x.f1, x.f2, x.f3.take 20⟩
/-- The tree that the laws look at. -/
def fewOf (l : List S33) : List S33 := (l.take 40).map cut
theorem few_small (l : List S33) : Small (fewOf l) := by
  refine ⟨by unfold fewOf; rw [List.length_map, List.length_take]; omega, fun x hx => ?_⟩
  obtain ⟨y, _, rfl⟩ := List.mem_map.1 hx
  show (y.f3.take 20).length ≤ 20
  rw [List.length_take]
  omega
theorem mn_take (x : List Int) : 0 ≤ mn (x.length : Int) 20 ∧ mn (x.length : Int) 20 ≤ x.length ∧ x.take (mn (x.length : Int) 20).toNat = x.take 20 := by
  unfold mn
  split
  · exact ⟨by omega, by omega, rfl⟩
  · refine ⟨by omega, by omega, ?_⟩
    rw [Int.toNat_natCast, List.take_of_length_le (Nat.le_refl _), List.take_of_length_le (by omega)]
theorem few_loop (l : List S33) : ∀ (d i : Nat), i + d = min 40 l.length → Ev (fun k => cavillaw13_Few.l0 k (i : Int) l ((l.take i).map cut)) (fewOf l)
  | 0, i, h => by
    refine evConst fun k => ?_
    simp only [cavillaw13_Few.l0]
    have e : (l.take i).map cut = fewOf l := by
      unfold fewOf
      by_cases c : l.length ≤ 40
      · rw [List.take_of_length_le (by omega), List.take_of_length_le (by omega)]
      · rw [show i = 40 by omega]
    by_cases c : (i : Int) < l.length
    · rw [if_pos c, if_neg (by omega), e]
    · rw [if_neg c, e]
  | d + 1, i, h => by
    have hi : i < l.length := by omega
    have hm := mn_take l[i].f3
    have e : (l.take i).map cut ++ [cut l[i]] = (l.take (i + 1)).map cut := by
      rw [List.take_add_one, List.getElem?_eq_getElem hi, List.map_append]
      rfl
    refine evNext (few_loop l d (i + 1) (by omega)) fun k => ?_
    simp only [cavillaw13_Few.l0]
    rw [if_pos (by omega), if_pos (by omega), if_pos (by omega), rd33_nat l i hi, if_pos hm.1, if_pos hm.2.1, if_pos (by rw [List.length_map, List.length_take]; omega), hm.2.2, w64_succ (n := 100) (by omega) (by omega), ← e]
    rfl
theorem few_ev (l : List S33) : Ev (fun k => cavillaw13_Few.f k l) (fewOf l) := by
  refine evCong (few_loop l (min 40 l.length) 0 (by omega)) fun k => ?_
  unfold cavillaw13_Few.f
  rfl
/-- How many nodes are of a kind. -/
def kindsOf (l : List S33) (q : Int) : Nat := (l.filter fun x => decide (x.f0 = q)).length
theorem kinds_take (l : List S33) (q : Int) (i : Nat) (h : i < l.length) : kindsOf (l.take (i + 1)) q = kindsOf (l.take i) q + if l[i].f0 = q then 1 else 0 := by
  unfold kindsOf
  rw [List.take_add_one, List.getElem?_eq_getElem h, List.filter_append, List.length_append]
  congr 1
  by_cases c : l[i].f0 = q
  · simp [c]
  · simp [c]
theorem kinds_le (l : List S33) (q : Int) : kindsOf l q ≤ l.length := List.length_filter_le _ _
theorem count_loop (l : List S33) (hs : Small l) (q : Int) : ∀ (d i : Nat), i + d = l.length → Ev (fun k => tree_Count.l0 k q ((kindsOf (l.take i) q : Nat) : Int) l (l.length : Int) (i : Int)) ((kindsOf l q : Nat) : Int)
  | 0, i, h => by
    refine evConst fun k => ?_
    simp only [tree_Count.l0]
    rw [if_neg (by omega), List.take_of_length_le (by omega)]
  | d + 1, i, h => by
    have hl := hs.1
    have hi : i < l.length := by omega
    have hc := kinds_take l q i hi
    have hle := kinds_le (l.take i) q
    rw [List.length_take] at hle
    refine evNext (count_loop l hs q d (i + 1) (by omega)) fun k => ?_
    simp only [tree_Count.l0]
    rw [if_pos (by omega), if_pos (by omega), if_pos (by omega), rd33_nat l i hi, w64_succ (i := i) (n := 100) (by omega) (by omega), w64_succ (n := 100) (by omega) (by omega), hc]
    by_cases c : l[i].f0 = q
    · rw [if_pos c, if_pos c]
    · rw [if_neg c, if_neg c]
      rfl
theorem count_ev (l : List S33) (hs : Small l) (q : Int) : Ev (fun k => tree_Count.f k l q) ((kindsOf l q : Nat) : Int) := by
  refine evCong (count_loop l hs q l.length 0 (by omega)) fun k => ?_
  unfold tree_Count.f
  rfl
theorem tworks_ev : Ev (fun k => cavillaw13_works.f k) true := Ev.of (fun k => cavillaw13_works.mono k) (k := 60) (by decide +kernel)
theorem law_loop (l : List S33) (hs : Small l) (q : Int) (e : Option Er) (c o : Int) (he : Coded e c) (ho : cavillaw01_Off.f e = some o) : ∀ (d i : Nat), i + d = l.length →
    Ev (fun k => cavillaw13_TreeChecks.l0 k q e c o ((kindsOf (l.take i) q : Nat) : Int) l (l.length : Int) (i : Int) l) true
  | 0, i, h => by
    rw [List.take_of_length_le (by omega)]
    refine evNext ((coded_ev he).bind (f := fun k t195 => if t195 = c then ((cavillaw01_Off.f e).bind fun t196 => if t196 = o then ((tree_Count.f k l q).bind fun t197 => if t197 = ((kindsOf l q : Nat) : Int) then ((cavillaw13_works.f k).bind fun t198 => some t198) else some false) else some false) else some false) ?_) (fun k => ?_)
    · refine evCong (((count_ev l hs q).bind (f := fun k t197 => if t197 = ((kindsOf l q : Nat) : Int) then ((cavillaw13_works.f k).bind fun t198 => some t198) else some false) ?_)) (fun k => ?_)
      · exact evCong (tworks_ev.bind (f := fun _ t => some t) (Ev.now _)) (fun k => if_pos rfl)
      · rw [if_pos rfl, ho, Option.bind_some, if_pos rfl]
    · simp only [cavillaw13_TreeChecks.l0]
      rw [if_neg (by omega)]
  | d + 1, i, h => by
    have hl := hs.1
    have hi : i < l.length := by omega
    have hc := kinds_take l q i hi
    have hle := kinds_le (l.take i) q
    rw [List.length_take] at hle
    refine evNext (law_loop l hs q e c o he ho d (i + 1) (by omega)) fun k => ?_
    simp only [cavillaw13_TreeChecks.l0]
    rw [if_pos (by omega), if_pos (by omega), if_pos (by omega), rd33_nat l i hi, w64_succ (i := i) (n := 100) (by omega) (by omega), w64_succ (n := 100) (by omega) (by omega), hc]
    by_cases c : l[i].f0 = q
    · rw [if_pos c, if_pos c]
    · rw [if_neg c, if_neg c]
      rfl
theorem TreeChecks (l : List S33) (t q : Int) : ∃ k, cavillaw13_TreeChecks.f k l t q = some true := by
  have hs := few_small l
  have H : Ev (fun k => cavillaw13_TreeChecks.f k l t q) true := by
    unfold cavillaw13_TreeChecks.f
    refine (few_ev l).bind (f := fun k t187 => (tree_Check.f k t187 t).bind fun t190 => (cavilref13_Check.f k t187 t).bind fun bt191 => cavillaw13_TreeChecks.l0 k q t190 bt191.1 bt191.2 0 t187 (t187.length : Int) 0 t187) ?_
    refine (check_ev (fewOf l) hs t).bind (f := fun k t190 => (cavilref13_Check.f k (fewOf l) t).bind fun bt191 => cavillaw13_TreeChecks.l0 k q t190 bt191.1 bt191.2 0 (fewOf l) ((fewOf l).length : Int) 0 (fewOf l)) ?_
    refine (rcheck_ev (fewOf l) hs t).bind (f := fun k bt191 => cavillaw13_TreeChecks.l0 k q (badE (badOf (fewOf l) t)) bt191.1 bt191.2 0 (fewOf l) ((fewOf l).length : Int) 0 (fewOf l)) ?_
    exact law_loop (fewOf l) hs q _ _ _ (bad_coded _) (bad_off _) (fewOf l).length 0 (by omega)
  obtain ⟨K, h⟩ := H
  exact ⟨K, h K (Nat.le_refl _)⟩
end Go.Proofs.YtnpgadfoohjlnaaDoor.Plain
